/-
  Texts of the proof, joined: SlIns, IdxS, WalS, WalS2, TabS, Sl4K, TabF, TxnS, TxnE, TxnDec, ImgS, ImgD, RLogM, WalS3, WalS4, WalS5, WalS6, WalS7, WalS8, WalS9, WalSA, WalSB, SrcS, SrcS2, FoldS, RefFF, Law06, SrcQ.
-/
import Derived.Test.YtfenmffiidchcaaGreatJ8
import Derived.Test.YtfenmffiidchcaaGreatQVcI
import Derived.Lib.Overlaps
import Derived.Lib.AppendZerosOnto
import Derived.Test.YtfenmffiidchcaaGreatQVcG
import Derived.Test.YtfenmffiidchcaaGreatQVcL
import Derived.Test.YtfenmffiidchcaaGreatQTab
import Derived.Test.YtfenmffiidchcaaGreatQVcX
import Derived.Test.YtfenmffiidchcaaGreatQVcA
import Derived.Test.YtfenmffiidchcaaGreatQVcC
import Derived.Test.YtfenmffiidchcaaGreatQVcF
namespace Go.Proofs.YtfenmffiidchcaaGreat
set_option linter.unusedVariables false
set_option maxRecDepth 100000
open Go.RowKit
def ky(b:Nat)(cs:List Value)(t:TypeId):zC:=λh=>h=aW.one b (.cells cs.toArray t (0,0))
section
variable {W w:World} {l l':List Chunk} {P:Program}
theorem ky.rF{b:Nat}{cs:List Value}{t:TypeId}(h:SL W l w)(m:Has (.ob (ky b cs t)) l):w.heap[b]?=some (.cells cs.toArray t (0,0)):=by
 obtain⟨k,s,x⟩:=h.out
 obtain⟨h1,e,le⟩:=m.heap s
 have e:h1=aW.one b (.cells cs.toArray t (0,0)):=e
 subst e
 exact x b _ (le b _ (by simp[aW.one]))
theorem ky.cell{b o:Nat}{cs:List Value}{t:TypeId}{v:Value}(h:SL W l w)(m:Has (.ob (ky b cs t)) l)(hv:cs[o]?=some v):w.cell? ⟨b,o,none⟩=some v:=by
 simp[World.cell?,ky.rF h m,hv]
theorem aWe{z cells:List Value}{ps:List (Nat × Nat × Value)}{e:TypeId}{n:Nat}{K:Value->World->Prop}(hS:SL W l w)(hc:iw z ps=some cells)
  (h:∀b w',SL W (.ob (ky b cells e)::l) w'->K (.slice (some ⟨b,0,none⟩) n n) w'):zn z ps e n w K:=⟨cells,hc,h _ _ (hS.alloc (c:=.ob (ky w.heap.size cells e)) rfl)⟩
theorem YM{dT sT ty elem tt:TypeId}{b o DY Mv m GR R' sz:Nat}{a:Addr}{cs cd:List Value}{K:Value->World->Prop}(hS:SL W l w)(hu:P.underlying dT=some (.slice elem))(hs:(P.info? elem).map (·.size)=some sz)
  (hm:Nat.min GR DY=m) (hl:cs.length=m*sz) (g7:∀j v,cs[j]?=some v->w.cell? (a.add j)=some v) (u:gh (.pt b cd tt) (.pt b (cd.take o++cs++cd.drop (o+cs.length)) tt) l l') (ho:o+cs.length<=cd.length) (h1:∀v∈cs,v.oneCell'=true)
  (h:∀v w',SL W l' w'->K v w'):zZ P (Builtin.copy_ #[dT,sT] ty #[.slice (some ⟨b,o,none⟩) DY Mv,.slice (some a) GR R']) w K:=by
 have uA:=run_loadCells_list (P:=P) w a cs g7
 have fD:∀j,j<cs.length->∃v,cd[o+j]?=some v:=λj hj=>⟨_,List.getElem?_eq_getElem (by omega)⟩
 have gK:=run_storeCells_cells (P:=P) b o cs 0 w (λj hj=>by obtain⟨v,hv⟩:=fD j hj;rw[Nat.add_zero,hS.cell u.has hv];rfl) (λj hj=>by obtain⟨v,hv⟩:=fD j hj;rw[Nat.add_zero];exact hS.frozen u.has hv) h1
 simp only[Nat.add_zero]at gK
 have hr:(Builtin.copy_ #[dT,sT] ty #[.slice (some ⟨b,o,none⟩) DY Mv,.slice (some a) GR R']).run P w= .ok (goInt m) (w.setCells b o cs):=by
  cases hq:P.info? elem with
  | none=>simp[hq]at hs
  | some i=>
   have hi:i.size=sz:=by simpa [hq] using hs
   simp[Builtin.copy_,run_underlying hu,Builtin.lenOf,Builtin.firstCells,sizeOf,typeInfo,hq,hi,hm,<- hl,uA,gK]
 exact⟨_,_,hr,h _ _ (SL.SE hS u ho)⟩
theorem aWf{ty t e:TypeId}{a:Option Addr}{n c:Nat}{K:Value->Prop}(ht:P.underlying t=some (.slice e))(h:K (.int .i64 c)):ga P (Builtin.cap_ #[t] ty #[.slice a n c]) w K:=
 ⟨_,by simp[Builtin.cap_,run_underlying ht,goInt],h⟩
end
theorem Tryz.X4:(Tryz.prog.info? 52).map (λi=>(i.zero.map (λz=>z.cells.toList),i.size,i.bytes))=some (some [.int .i64 0,.string ⟨#[]⟩],2,24):=by kernel_rfl
theorem Tryz.b7c:(Tryz.prog.info? 52).map (λi=>i.zero)=some (some (.agg #[.int .i64 0,.string ⟨#[]⟩])):=by kernel_rfl
theorem a7s(w:World):(sizeOf 52).run Tryz.prog w= .ok 2 w:=by kernel_rfl
theorem QY{W w:World}{l:List Chunk}{vb b o m vc lb cb:Nat}{cv cs:List Value}{K:Value->World->Prop}(hS:SL W l w)(h1:Has (.ob (ky vb cv 52)) l)(h2:Has (.pt b cs 52) l)(dV:vb≠b)(lH:cs.length≠0)
  (h:K (.bool false) w):qz Tryz.prog 323 [.slice (some ⟨vb,0,none⟩) m vc,.slice (some ⟨b,o,none⟩) lb cb] w K:=by
 have e1:=ky.rF hS h1
 obtain⟨f,hf,e2⟩:=hS.rF h2
 have Xq:w.shape? vb=some (52,cv.length):=by simp[World.shape?,e1]
 have Xt:w.shape? b=some (52,cs.length):=by simp[World.shape?,e2]
 have hz:∀x:Addr,x.block=vb->w.frozen? x=false:=λx hx=>by simp only[World.frozen?,hx,e1];simp
 have hr:=Go.Lib.run_overlaps_apart (P:=Tryz.prog) w 53 4 52 Tryz.underlying53 2 a7s ⟨vb,0,none⟩ ⟨b,o,none⟩ m vc lb cb dV 52 52 cv.length cs.length Xq Xt lH (hz _ rfl) (hz _ rfl)
 refine⟨.bool false,w,?_,h⟩
 have:=run_callFunc_extern Tryz.func323 (by kernel_rfl) (by kernel_rfl) (by kernel_rfl) (e:=Extern.SlicesOverlaps.overlaps #[53,53] #[4]) (by kernel_rfl) #[.slice (some ⟨vb,0,none⟩) m vc,.slice (some ⟨b,o,none⟩) lb cb] w
 rw[this,hr];rfl
theorem ky.ne{W w:World}{l:List Chunk}{b vb:Nat}{cs cv:List Value}{t t':TypeId}(h:SL W (.pt b cs t::.ob (ky vb cv t')::l) w):vb≠b:=by
 rintro rfl
 obtain⟨k,⟨h1,h2,s,⟨f,_,rfl⟩,h3,h4,s',e,r⟩,m⟩:=h.out
 have e:h3=aW.one vb (.cells cv.toArray t' (0,0)):=e
 subst e
 rcases s vb with ⟨a,_⟩|⟨a,_⟩
 ·simp[aW.one]at a
 ·rcases s' vb with ⟨c,_⟩|⟨_,c⟩
  ·simp[aW.one]at c
  ·rw[a]at c;simp[aW.one]at c
theorem GC(A E x:List Value):(A++E).take A.length++x++(A++E).drop (A.length+x.length)=A++x++E.drop x.length:=by
 rw[List.take_left,<- List.drop_drop,List.drop_left]
theorem aF9(A E D:List Value)(k:Nat)(hk:k<=E.length):(A++E).take (A.length+k)++D++(A++E).drop (A.length+k+D.length)=A++(E.take k++D++E.drop (k+D.length)):=by
 rw[List.take_length_add_append,Nat.add_assoc,<- List.drop_drop (l:=A++E),List.drop_left];simp
theorem Y3(v:Value)(n i vb:Nat)(cells x:List Value)(hi:i<=n)(hx:x.length=2)(fW:∀v∈cells,v.oneCell'=true)(gL:∀v∈x,v.oneCell'=true)(hn:n<=1000000):
  SP 278 [v,.int .i64 (i:Int),.slice (some ⟨vb,0,none⟩) 1 1] [.ob (a7 v 52 2 n cells),.ob (ky vb x 52)] (λu post=>post=[.ob (a7 u 52 2 (n+1) (cells.take (i*2)++x++cells.drop (i*2)))]):=by
 intro W F w hS;apply bR5;delta J6 aF dc ai c_;(try simp only[app]at hS)
 have g7:∀{l:List Chunk} {w:World},SL W l w->Has (.ob (ky vb x 52)) l->∀j u,x[j]?=some u->w.cell? ((⟨vb,0,none⟩:Addr).add j)=some u:=λh m j u e=>by
  rw[Addr.add_lit,Nat.zero_add];exact ky.cell h m e
 have jG:i=n->zt 2 24 [.int .i64 0,.string ⟨#[]⟩] 52 v (.slice (some ⟨vb,0,none⟩) 1 1) w λu w=>∃post,(post=[.ob (a7 u 52 2 (n+1) (cells.take (i*2)++x++cells.drop (i*2)))])/\SL W (app post F) w:=λe=>by
  subst e
  obtain⟨_,_,_,hlen,_⟩:=a7.at hS Xh
  refine zx (n:=i) (m:=1) hS Xr ⟨rfl,hx,g7 hS Xh⟩ (by omega) rfl gL (by omega) (by omega) ?_
  clear hS;intro u w hS
  rw[List.take_of_length_le (by omega),List.drop_eq_nil_of_le (by omega),List.append_nil]
  exact⟨_,rfl,aR hS⟩
 rcases a7.open hS with ⟨⟨a,rfl⟩,rfl,rfl,_⟩|⟨b,cap,rest,rfl,sX,hlen,jW,xD⟩
 ·refine⟨a,0,0,i,0,0,rfl,rfl,rfl,⟨_,rfl⟩,hi,Nat.le_refl _,Nat.le_refl _,?_⟩
  refine yk ?_
  refine Gp ?_
  refine za (λh=>by omega) (λ_=>?_)
  refine yk ?_
  refine Gp ?_
  exact za (λh=>jG (by omega)) (λh=>by omega)
 refine⟨_,n,cap,i,n,cap,rfl,rfl,rfl,⟨_,rfl⟩,hi,sX,Nat.le_refl _,?_⟩
 refine yk ?_
 refine Gp ?_
 refine za (λh=>by omega) (λ_=>?_)
 refine yk ?_
 refine Gp ?_
 refine za (λh=>jG (by omega)) (λdV=>?_)
 clear jG hS
 have hS:=xD
 clear xD
 have kF:i<n:=by omega
 have XF:=ky.ne hS
 refine Gp ?_
 refine aWf Tryz.underlying53 ?_
 refine Gp ?_
 obtain⟨A,hA⟩:∃A,A=cells.take (i*2):=⟨_,rfl⟩
 obtain⟨D,hD⟩:∃D,D=cells.drop (i*2):=⟨_,rfl⟩
 have BO:cells=A++D:=by rw[hA,hD,List.take_append_drop]
 have pW:A.length=i*2:=by rw[hA,List.length_take];omega
 have NR:D.length=(n-i)*2:=by rw[hD,List.length_drop];omega
 have NQ:∀v∈D,v.oneCell'=true:=λv hv=>fW v (by rw[BO];exact List.mem_append_right _ hv)
 rw[<- hA,<- hD]
 have kH:(Tryz.prog.info? 52).map (·.size)=some 2:=by kernel_rfl
 refine za (λhg=>?_) (λhg=>?_)
 ·
  have Oo:cap=n:=by omega
  subst Oo
  refine⟨_,cap,cap,0,i,cap,rfl,rfl,⟨_,rfl⟩,rfl,by omega,by omega,by omega,?_⟩
  rw[if_neg (show ¬cap=0 by omega)]
  simp only[Option.map_some,Addr.add_lit,Nat.zero_mul,Nat.add_zero,Nat.sub_zero]
  refine Gp ?_
  rw[show (((cap+1:Nat):Int)-(i:Int))=((cap+1-i:Nat):Int) by omega]
  cases hq:Tryz.prog.info? 52 with
  | none=>rw[hq]at kH;cases kH
  | some ti=>
   have hI:=Tryz.X4
   rw[hq]at hI
   have hZ:=Tryz.b7c
   rw[hq]at hZ
   simp only[Option.map_some,Option.some.injEq,Prod.mk.injEq]at hI hZ
   obtain⟨_,h2,h3⟩:=hI
   have hold:(Builtin.firstCells ti.size i (.slice (some ⟨b,0,none⟩) i cap)).run Tryz.prog w.drew= .ok A.toArray w.drew:=by
    have hl:=run_loadCells_list (P:=Tryz.prog) w.drew ⟨b,0,none⟩ A λj u hj=>by
     rw[Addr.add_lit,Nat.zero_add]
     refine hS.drew.cell .hd ?_
     rw[BO,List.append_assoc,List.getElem?_append_left (List.getElem?_eq_some_iff.1 hj).1];exact hj
    rw[pW]at hl
    rw[h2]
    simp[Builtin.firstCells,hl]
   have jH:Builtin.nextslicecap (i+(cap+1-i)) cap*ti.bytes<=281474976710656:=growslice_fits (by omega) (by rw[h3];omega)
   have B8:=Go.Lib.run_append_grow_zeros (P:=Tryz.prog) w 53 3 53 52 ti _ .i64 .i64 Tryz.underlying53 Tryz.underlying3 hq hZ (some ⟨b,0,none⟩) i cap A hold (cap+1-i) (by omega) (by omega) (by omega) (by omega) (by rw[h3];omega) jH
   refine⟨_,_,B8,?_⟩
   generalize Wd:grownCap w (i+(cap+1-i)) cap 52=cp
   have pc:cap+1<=cp:=by
    have:=grownCap_ge w (i+(cap+1-i)) cap 52
    omega
   have hz:∀k,Builtin.zeroCells (Value.cells (.agg #[.int .i64 0,.string ⟨#[]⟩])) k=(db [.int .i64 0,.string ⟨#[]⟩] k).toArray:=λk=>by
    rw[<- Hp (Value.cells (.agg #[.int .i64 0,.string ⟨#[]⟩])) [.int .i64 0,.string ⟨#[]⟩] rfl k,Array.toArray_toList]
   rw[hz,hz]
   obtain⟨E,hE⟩:∃E:List Value,E=db [.int .i64 0,.string ⟨#[]⟩] (cap+1-i)++db [.int .i64 0,.string ⟨#[]⟩] (cp-(i+(cap+1-i))):=⟨_,rfl⟩
   have VS:E.length=(cp-i)*2:=by rw[hE,List.length_append,ku,ku];simp;omega
   have e2:A.toArray++(db [.int .i64 0,.string ⟨#[]⟩] (cap+1-i)).toArray++(db [.int .i64 0,.string ⟨#[]⟩] (cp-(i+(cap+1-i)))).toArray=(A++E).toArray:=by rw[hE];simp
   rw[e2]
   have hS:=SL.new (cs:=A++E) (t:=52) hS.drew
   clear B8 hold hz e2 hE
   have uF:w.heap.size=w.drew.heap.size:=rfl
   rw[uF]
   generalize w.drew.heap.size=nb at *
   generalize (w.drew.alloc (.cells (A++E).toArray 52))=w at *
   have ei:i+(cap+1-i)=cap+1:=by omega
   rw[ei]
   refine⟨_,cap+1,cp,i,cap+1,cp,rfl,rfl,rfl,⟨_,rfl⟩,by omega,pc,Nat.le_refl _,?_⟩
   rw[if_neg (show ¬cp=i by omega)]
   simp only[Option.map_some,Addr.add_lit,Nat.zero_add]
   have e3:=GC A E x
   rw[pW]at e3
   refine YM (tt:=52) (l':=.pt nb (A++x++E.drop x.length) 52::.pt b (cells++rest) 52::.ob (ky vb x 52)::F) hS Tryz.underlying53 kH (m:=1) (sz:=2) (Nat.min_eq_left (by omega)) (by omega) (g7 hS Xh) (by rw[e3];exact gh.hd) (by rw[List.length_append];omega) gL ?_
   clear hS e3
   intro _ w hS
   refine Gn λw hS=>?_
   refine⟨_,cap+1,cp,i+1,cap+1,cp,rfl,rfl,rfl,⟨_,rfl⟩,by omega,pc,Nat.le_refl _,?_⟩
   rw[if_neg (show ¬cp=i+1 by omega)]
   refine⟨_,cap,cap,i,cap,cap,rfl,rfl,rfl,⟨_,rfl⟩,by omega,Nat.le_refl _,Nat.le_refl _,?_⟩
   rw[if_neg (show ¬cap=i by omega)]
   simp only[Option.map_some,Addr.add_lit,Nat.zero_add]
   have e4:=GC (A++x) (E.drop x.length) D
   have e5:(A++x).length=(i+1)*2:=by rw[List.length_append];omega
   rw[e5]at e4
   have NS:(E.drop x.length).length=E.length-2:=by rw[List.length_drop,hx]
   refine YM (tt:=52) (l':=.pt nb (A++x++D++(E.drop x.length).drop D.length) 52::.pt b (cells++rest) 52::.ob (ky vb x 52)::F) hS Tryz.underlying53 kH (m:=cap-i) (sz:=2) (Nat.min_eq_left (by omega)) NR (λj u hj=>?_) (by rw[e4];exact gh.hd) (by rw[List.length_append,e5,NS];omega) NQ ?_
   ·rw[Addr.add_lit]
    refine hS.cell (.tl .hd) ?_
    rw[BO,List.append_assoc,List.getElem?_append_right (by omega),pW,Nat.add_sub_cancel_left,List.getElem?_append_left (List.getElem?_eq_some_iff.1 hj).1];exact hj
   clear hS e4
   intro _ w hS
   refine⟨_,rfl,SL.b6 (a7.mk (sz:=2) (n:=cap+1) (cap:=cp) (cells:=A++x++D) (rest:=(E.drop x.length).drop D.length) pc ?_ ?_ hS) Xi⟩
   ·rw[List.length_append,e5];omega
   ·rw[List.length_drop,NS];omega
 ·
  have Xl:n+1<=cap:=by omega
  clear hg
  have B7:2<=rest.length:=by rw[jW];omega
  refine Gp ?_
  refine⟨_,n,cap,0,n+1,cap,rfl,rfl,⟨_,rfl⟩,rfl,by omega,by omega,by omega,?_⟩
  rw[if_neg (show ¬cap=0 by omega)]
  simp only[Option.map_some,Addr.add_lit,Nat.zero_mul,Nat.add_zero,Nat.sub_zero]
  refine Gp ?_
  refine⟨_,n+1,cap,i+1,n+1,cap,rfl,rfl,rfl,⟨_,rfl⟩,by omega,by omega,by omega,?_⟩
  rw[if_neg (show ¬cap=i+1 by omega)]
  simp only[Option.map_some,Addr.add_lit,Nat.zero_add]
  refine QY hS Xh Xh XF (by rw[List.length_append];omega) ?_
  refine⟨_,rfl,?_⟩
  refine zw ?_
  refine Gn λw hS=>?_
  refine⟨_,n+1,cap,i+1,n+1,cap,rfl,rfl,rfl,⟨_,rfl⟩,by omega,by omega,by omega,?_⟩
  rw[if_neg (show ¬cap=i+1 by omega)]
  refine⟨_,n+1,cap,i,n+1,cap,rfl,rfl,rfl,⟨_,rfl⟩,by omega,by omega,by omega,?_⟩
  rw[if_neg (show ¬cap=i by omega)]
  simp only[Option.map_some,Addr.add_lit,Nat.zero_add]
  obtain⟨E,hE⟩:∃E,E=D++rest:=⟨_,rfl⟩
  have VS:E.length=(cap-i)*2:=by rw[hE,List.length_append];omega
  have VQ:cells++rest=A++E:=by rw[BO,hE,List.append_assoc]
  rw[VQ]at hS
  have e3:=aF9 A E D 2 (by omega)
  rw[pW,show i*2+2=(i+1)*2 by omega]at e3
  refine YM (tt:=52) (l':=.pt b (A++(E.take 2++D++E.drop (2+D.length))) 52::.ob (ky vb x 52)::F) hS Tryz.underlying53 kH (m:=n-i) (sz:=2) (by simp only[Nat.min_def];split<;>omega) NR (λj u hj=>?_) (by rw[e3];exact gh.hd) (by rw[List.length_append];omega) NQ ?_
  ·rw[Addr.add_lit]
   refine hS.cell .hd ?_
   rw[List.getElem?_append_right (by omega),pW,Nat.add_sub_cancel_left,hE,List.getElem?_append_left (List.getElem?_eq_some_iff.1 hj).1];exact hj
  clear hS e3
  intro _ w hS
  refine⟨_,n+1,cap,i,n+1,cap,rfl,rfl,rfl,⟨_,rfl⟩,by omega,by omega,by omega,?_⟩
  rw[if_neg (show ¬cap=i by omega)]
  simp only[Option.map_some,Addr.add_lit,Nat.zero_add]
  have e4:=GC A (E.take 2++D++E.drop (2+D.length)) x
  rw[pW,hx]at e4
  have v_:(E.take 2).length=2:=by rw[List.length_take];omega
  have e5:(E.take 2++D++E.drop (2+D.length)).drop 2=D++E.drop (2+D.length):=by
   rw[List.append_assoc]
   have:=List.drop_left (l₁:=E.take 2) (l₂:=D++E.drop (2+D.length))
   rwa [v_]at this
  rw[e5]at e4
  refine YM (tt:=52) (l':=.pt b (A++x++(D++E.drop (2+D.length))) 52::.ob (ky vb x 52)::F) hS Tryz.underlying53 kH (m:=1) (sz:=2) (Nat.min_eq_left (by omega)) (by omega) (g7 hS Xh) (by rw[hx,e4];exact gh.hd) (by rw[List.length_append,List.length_append,List.length_append,v_,List.length_drop];omega) gL ?_
  clear hS e4 e5
  intro _ w hS
  rw[<- List.append_assoc (A++x)]at hS
  refine⟨_,rfl,SL.b6 (a7.mk (sz:=2) (n:=n+1) (cap:=cap) (cells:=A++x++D) (rest:=E.drop (2+D.length)) Xl ?_ ?_ hS) Xi⟩
  ·rw[List.length_append,List.length_append];omega
  ·rw[List.length_drop];omega
abbrev dg(b:Nat):Value:=.pointer (some ⟨b,0,none⟩)
theorem a7c{W w:World}{l:List Chunk}{α:Type}{enc:α->List Value}{v u:Value}{t:TypeId}{sz j i:Nat}{k:IntKind}{xs:List α}{y:α}{K:World->Prop}(hS:SL W (.ob (a7 v t sz xs.length (xs.map enc).flatten)::l) w)(hn:∀x,(enc x).length=sz)
  (hj:j<xs.length) (hi:i<sz) (hy:(enc xs[j]).set i u=enc y) (h1:u.oneCell'=true) (hK:∀w',SL W (.ob (a7 v t sz (xs.set j y).length ((xs.set j y).map enc).flatten)::l) w'->K w'):zh sz v (.int k (j:Int)) λp=>zu i p λq=>fH q u w K:=by
 rcases a7.open hS with ⟨_,h0,_⟩|⟨b,cap,rest,rfl,hc,hlen,jW,hS⟩
 ·omega
 have dZ:j*sz+i<xs.length*sz:=by
  have:(j+1)*sz<=xs.length*sz:=Nat.mul_le_mul_right _ hj
  rw[Nat.add_mul]at this;omega
 refine zB hj (zQ ?_)
 rw[Nat.zero_add]
 refine y2 hS .hd (List.getElem?_eq_getElem (by rw[List.length_append];omega)) h1 λw' hS=>hK w' ?_
 rw[List.set_append_left _ _ (by omega),El hn xs j i hj y u hi hy]at hS
 have hl:(xs.set j y).length=xs.length:=List.length_set
 rw[hl]
 refine a7.mk hc ?_ jW hS
 rw[jF hn,hl]
theorem a7f{W w:World}{l:List Chunk}{v:Value}{t:TypeId}{sz n k:Nat}{kk:IntKind}{cells:List Value}{K:Value->Prop}(h:SL W l w)(mm:Has (.ob (a7 v t sz n cells)) l)(hk:k<=n)
  (hK:∀A c,n-k<=c->(∀m c' w' l',m<=n-k->SL W l' w'->Has (.ob (a7 v t sz n cells)) l'->jy w' sz (.slice A m c') m ((cells.drop (k*sz)).take (m*sz)))->K (.slice A (n-k) c)):eG sz v (some (.int kk (k:Int))) none none K:=by
 obtain⟨a,cap,rfl,hl,_⟩:=a7.at h mm
 have sX:n<=cap:=by
  obtain⟨l2,r⟩:=mm.rem
  rcases a7.open (h.perm r.perm) with ⟨⟨a',e⟩,rfl,rfl,_⟩|⟨b,pM,rest,e,hc,_⟩
  ·cases e;omega
  ·cases e;exact hc
 refine⟨a,n,cap,k,n,cap,rfl,rfl,rfl,⟨kk,rfl⟩,hk,sX,Nat.le_refl _,hK _ _ (by omega) λm c' w' l' hm h' m'=>?_⟩
 obtain⟨a',pM,e,_,hx⟩:=a7.at h' m'
 cases e
 have p7:((cells.drop (k*sz)).take (m*sz)).length=m*sz:=by
  have:(k+m)*sz<=n*sz:=Nat.mul_le_mul_right _ (by omega)
  rw[Nat.add_mul]at this
  rw[List.length_take,List.length_drop,hl];omega
 rcases Nat.eq_zero_or_pos m with rfl|OR
 ·have:(cells.drop (k*sz)).take (0*sz)=[]:=by simp
  rw[this]
  generalize (if cap=k then a else a.map (·.add (k*sz)))=A
  cases A with
  | none=>exact⟨rfl,rfl⟩
  | some p=>exact⟨rfl,by simp,λj v e=>by simp at e⟩
 ·obtain⟨b,rfl,h3⟩:=hx 0 (by omega)
  rw[if_neg (show ¬cap=k by omega)]
  refine⟨rfl,p7,λj v e=>?_⟩
  show w'.cell? (((⟨b,0,none⟩:Addr).add (k*sz)).add j)=some v
  rw[Addr.add_lit,Addr.add_lit]
  refine h3 _ v ?_
  rw[List.getElem?_take]at e
  split at e
  ·rw[List.getElem?_drop]at e
   rw[Nat.zero_add];exact e
  ·cases e
abbrev fO(v:Value)(l:List Row):Chunk:=.ob (a7 v 52 2 l.length (l.map dX).flatten)
theorem Bu{z v:Value}(h:v.oneCell'=true):iw (db [z] 1) [(0,1,v)]=some [v]:=by simp[iw,db,si h]
theorem sO(r:Row):∀v∈dX r,v.oneCell'=true:=by simp[dX,Value.oneCell']
theorem Ea(k:Int)(v:ByteArray):dX ⟨k,v⟩=[.int .i64 k,.string v]:=rfl
def eW(x:Nat × List Row):zC:=jQ λv:Value=>zP True [.pt x.1 [v] 250,fO v x.2]
theorem eW.iff{W w:World}{b:Nat}{C:List Row}{l:List Chunk}:SL W (.ob (eW (b,C))::l) w↔∃v,SL W (.pt b [v] 250::fO v C::l) w:=by
 unfold eW
 simp only[SL.ex,SL.fact,List.cons_append,List.nil_append,true_and]
theorem eW.put{W w:World}{b:Nat}{C:List Row}{v:Value}{l F:List Chunk}(hS:SL W l w)(p:gq [.pt b [v] 250,fO v C] l F):SL W (.ob (eW (b,C))::F) w:=eW.iff.2 ⟨v,hS.pick p⟩
theorem Y7(a:Int):SP 343 [.int .i64 a] [] (dj (.bool false) []):=by
 intro W F w hS;apply b5c;unfold KH;(try simp only[app]at hS)
 refine Gp ?_
 rw[show decide (a≠a)=false by simp]
 (exact dq hS)
def nu(a b:Int):Int:=if a<b then -1 else if b<a then 1 else 0
theorem Mt{a b:Int}:nu a b<0↔a<b:=by unfold nu;split<;>(try split)<;>omega
theorem UB{a b:Int}:nu a b=0↔a=b:=by unfold nu;split<;>(try split)<;>omega
theorem UC(a b:Int):SP 299 [.int .i64 a,.int .i64 b] [] (dj (.int .i64 (nu a b)) []):=by
 intro W F w hS;apply bWo;delta Kn aF ai;(try simp only[app]at hS)
 refine Cg (Y7 a) λw hS=>?_
 refine Cg (Y7 b) λw hS=>?_
 refine za (λh=>?_) (λh=>?_)
 ·rw[show nu a b = -1 by unfold nu;rw[if_pos h]]
  (exact dq hS)
 refine bR (λh2=>?_) (λh2=>?_)
 ·rw[show nu a b=1 by unfold nu;rw[if_neg h,if_pos h2]]
  (exact dq hS)
 ·rw[show nu a b=0 by unfold nu;rw[if_neg h,if_neg h2]]
  (exact dq hS)
theorem Yi(r:Row)(key:Int):SP 298 [agg (dX r),.int .i64 key] [] (dj (.int .i64 (nu r.key key)) []):=by
 obtain⟨rk,rv⟩:=r
 intro W F w hS;apply bWn;delta Km a_;(try simp only[app]at hS)
 refine zK hS λxb w hS=>?_
 rw[Ea]at hS
 refine Gp ?_
 refine Cg (UC rk key) λw hS=>?_
 (exact dq hS)
theorem aWv{i j:Nat}{K:Value->Prop}(h:i+j<=1000000000)(k:K (.int .i64 (((i+j) / 2:Nat):Int))):zc .add (.int .i64 i) (.int .i64 j) λa=>zG .u64 a λb=>zc .shr b (.int .u64 1) λc=>zG .i64 c K:=by
 refine yd (by omega) (zM ?_)
 rw[IntKind.wrap_u64,show ((i+j:Nat):Int) % 18446744073709551616=((i+j:Nat):Int) by omega]
 have e:((i+j:Nat):Int).fdiv (2 ^ (min (1:Int).toNat IntKind.u64.bits))=(((i+j) / 2:Nat):Int):=by
  rw[show (min (1:Int).toNat IntKind.u64.bits)=1 by decide,Int.fdiv_eq_ediv_of_nonneg _ (by decide)]
  omega
 refine⟨_,by simp only[jk];rw[if_neg (by decide)],?_⟩
 rw[e]
 exact yx (by omega) k
theorem Ug(v:Value)(C:List Row)(key:Int)(hs:fZ C)(hn:C.length<=1000000):
  SP 297 [v,.int .i64 key,.func (.func 298) #[] #[]] [fO v C] (λu post=>∃i,AtR C key i/\u= .tuple #[.int .i64 (i:Nat),.bool (kn C key i)]/\post=[fO v C]):=by
 intro W F w hS;apply bWm;delta Kl aF ai;(try simp only[app]at hS)
 refine zr hS Xh ?_
 refine⟨λus w=>∃i j:Nat,us=[.int .i64 i,.int .i64 j]/\i<=j/\j<=C.length/\(∀k (h:k<C.length),k<i->C[k].key<key)/\(∀h:j<C.length,key<=C[j].key)/\SL W (fO v C::F) w,
  λus _=>match us with|[.int _ i,.int _ j]=>(j-i).toNat|_=>0,⟨0,C.length,rfl,by omega,by omega,λk h hk=>by omega,λh=>by omega,hS⟩,?_⟩
 clear hS
 rintro v9 v10 w ⟨i,j,da,rW,hj,x_,BY,hS⟩
 cases da
 refine Sc ?_
 refine za (λh=>?_) (λh=>?_)
 ·refine aWv (by omega) ?_
  generalize hm:(i+j) / 2=m
  have vW:i<=m/\m<j:=by omega
  clear hm
  have s7:m<C.length:=by omega
  refine z6 hS Xh fQ (x:=C[m]) (by simp[s7]) s7 ?_
  refine⟨298,#[],#[],rfl,by decide,?_⟩
  refine Cg (Yi C[m] key) λw hS=>?_
  refine za (λh1=>?_) (λh1=>?_)
  ·have h1:=Mt.1 h1
   refine Gp ?_
   refine⟨⟨m+1,j,rfl,by omega,hj,λk hk hkm=>?_,BY,hS⟩,by dsimp only;omega⟩
   rcases Nat.lt_or_ge k m with h2|h2
   ·have:=List.pairwise_iff_getElem.1 hs k m hk s7 h2
    omega
   ·obtain rfl:k=m:=by omega
    exact h1
  ·have h1:¬C[m].key<key:=λh2=>h1 (Mt.2 h2)
   exact⟨⟨i,m,rfl,vW.1,by omega,x_,λ_=>by omega,hS⟩,by dsimp only;omega⟩
 ·obtain rfl:i=j:=by omega
  have hA:AtR C key i:=⟨hj,x_,BY⟩
  refine bR (λh1=>?_) (λh1=>?_)
  ·have bW:i<C.length:=by omega
   refine z6 hS Xh fQ (x:=C[i]) (by simp[bW]) bW ?_
   refine⟨298,#[],#[],rfl,by decide,?_⟩
   refine Cg (Yi C[i] key) λw hS=>?_
   have e:decide (nu C[i].key key=0)=kn C key i:=by
    unfold kn
    rw[decide_eq_decide,UB]
    exact⟨λh=>⟨bW,h⟩,λ⟨_,h⟩=>h⟩
   rw[e]
   exact⟨_,⟨i,hA,rfl,rfl⟩,hS⟩
  ·have e:kn C key i=false:=decide_eq_false λ⟨h,_⟩=>h1 (by omega)
   rw[<- e]
   exact⟨_,⟨i,hA,rfl,rfl⟩,hS⟩
theorem YY(v:Value)(n i:Nat)(cells:List Value)(hi:i<n)(fW:∀v∈cells,v.oneCell'=true)(hb:n*24<=140737488355328)(hn:n<=140737488355328):
  SP 327 [v,.int .i64 (i:Int),.int .i64 ((i+1:Nat):Int)] [.ob (a7 v 52 2 n cells)] (λu post=>post=[.ob (a7 u 52 2 (n-1) (cells.take (i*2)++cells.drop ((i+1)*2)))]):=
 MK (z:=[.int .i64 0,.string ⟨#[]⟩]) (zv:=.agg #[.int .i64 0,.string ⟨#[]⟩]) (λv0 v1 v2 w R h=>bW6 v0 v1 v2 w R h) Tryz.underlying53 (λw=>by kernel_rfl) rfl rfl (by simp[Value.oneCell']) v n i cells hi fW hb hn
section
variable (b:Nat) (C:List Row) (key:Int) (hs:fZ C) (hn:C.length<=1000000)
include hs hn
theorem yL(v:Value):SP 240 [dg b,.int .i64 key] [.pt b [v] 250,fO v C] (λu post=>∃i,AtR C key i/\u= .tuple #[.int .i64 (i:Nat),.bool (kn C key i)]/\post=[.pt b [v] 250,fO v C]):=by
 intro W F w hS;apply bRi;delta JI bw;(try simp only[app]at hS)
 refine Gp ?_
 refine Cc (Ug v C key hs hn) ?_;clear hS
 rintro u post ⟨i,hA,rfl,rfl⟩ w hS
 (try simp only[app]at hS);refine Gp ?_
 exact⟨_,⟨i,hA,rfl,rfl⟩,aR hS⟩
theorem Ym(val:ByteArray):SP 217 [dg b,.int .i64 key,.string val] [.ob (eW (b,C))] (λu post=>(∃q,u= .bool q)/\post=[.ob (eW (b,f' C ⟨key,val⟩))]):=by
 intro W F w hS;apply bIw;delta Jl bw dx b7 ai c_;(try simp only[app]at hS)
 obtain⟨v,hS⟩:=eW.iff.1 hS
 refine Cc (yL b C key hs hn v) ?_;clear hS
 rintro u post ⟨i,hA,rfl,rfl⟩ w hS
 (try simp only[app]at hS);refine Gp ?_
 have hi:=hA.ins val
 have hle:=hA.le
 cases hk:kn C key i with
 | true=>
  rw[hk,if_pos rfl]at hi
  obtain⟨bW,_⟩:=of_decide_eq_true hk
  refine zw ?_
  refine Gp ?_
  refine a7c (enc:=dX) (y:=⟨key,val⟩) (Has.front hS (l2:=.pt b [v] 250::F) Xr) fQ bW (by decide) ?_ rfl λw hS=>?_
  ·obtain⟨_,e⟩:=of_decide_eq_true hk
   rw[<- e];rfl
  rw[hi]
  exact⟨_,⟨⟨_,rfl⟩,rfl⟩,eW.iff.2 ⟨v,aR hS⟩⟩
 | false=>
  rw[hk,if_neg (by decide)]at hi
  refine zq ?_
  (repeat refine Gp ?_)
  refine aWe hS (Nl (cs:=dX ⟨key,val⟩) rfl rfl) λvb w hS=>?_
  refine Cc (Y3 v C.length i vb (C.map dX).flatten (dX ⟨key,val⟩) hle rfl (m_ sO _) (sO _) hn) ?_;clear hS
  rintro u post rfl w hS
  try simp only[app]at hS
  have h1:=a7.one hS
  refine Gn λw hS=>?_
  have e:((C.map dX).flatten.take (i*2)++dX ⟨key,val⟩++(C.map dX).flatten.drop (i*2))=((f' C ⟨key,val⟩).map dX).flatten:=by
   rw[hi,od fQ,nA fQ];simp
  have hl:C.length+1=(f' C ⟨key,val⟩).length:=by rw[hi];simp;omega
  rw[e,hl]at hS
  exact⟨_,⟨⟨_,rfl⟩,rfl⟩,eW.iff.2 ⟨u,aR hS⟩⟩
theorem QO:SP 283 [dg b,.int .i64 key] [.ob (eW (b,C))] (λu post=>(∃q,u= .bool q)/\post=[.ob (eW (b,iK C key))]):=by
 intro W F w hS;apply bWb;delta Ka bw dx ai;(try simp only[app]at hS)
 obtain⟨v,hS⟩:=eW.iff.1 hS
 refine Cc (yL b C key hs hn v) ?_;clear hS
 rintro u post ⟨i,hA,rfl,rfl⟩ w hS
 (try simp only[app]at hS);refine Gp ?_
 have hi:=hA.del hs
 have hle:=hA.le
 cases hk:kn C key i with
 | true=>
  rw[hk,if_pos rfl]at hi
  obtain⟨bW,_⟩:=of_decide_eq_true hk
  refine zw ?_
  refine Gp ?_
  refine Cc (YY v C.length i (C.map dX).flatten bW (m_ sO _) (by omega) (by omega)) ?_;clear hS
  rintro u post rfl w hS
  try simp only[app]at hS
  have h1:=a7.one hS
  refine Gn λw hS=>?_
  have e:((C.map dX).flatten.take (i*2)++(C.map dX).flatten.drop ((i+1)*2))=((iK C key).map dX).flatten:=by
   rw[hi,od fQ,nA fQ];simp
  have hl:C.length-1=(iK C key).length:=by rw[hi,List.length_append,List.length_take,List.length_drop];omega
  rw[e,hl]at hS
  exact⟨_,⟨⟨_,rfl⟩,rfl⟩,eW.iff.2 ⟨u,aR hS⟩⟩
 | false=>
  rw[hk,if_neg (by decide)]at hi
  refine zq ?_
  rw[hi]
  exact⟨_,⟨⟨_,rfl⟩,rfl⟩,eW.iff.2 ⟨v,aR hS⟩⟩
def Nx(o:Option ByteArray):Value:=.tuple #[.string (o.getD emp),.bool o.isSome]
theorem QP:SP 224 [dg b,.int .i64 key] [.ob (eW (b,C))] (dj (Nx (fe C key)) [.ob (eW (b,C))]):=by
 intro W F w hS;apply bI4;delta Jt bw a_ dc;(try simp only[app]at hS)
 obtain⟨v,hS⟩:=eW.iff.1 hS
 refine Cc (yL b C key hs hn v) ?_;clear hS
 rintro u post ⟨i,hA,rfl,rfl⟩ w hS
 (try simp only[app]at hS);refine Gp ?_
 obtain⟨xO,EZ⟩:=hA.get hs
 cases hk:kn C key i with
 | true=>
  obtain⟨bW,e⟩:=of_decide_eq_true hk
  refine zq ?_
  refine Gp ?_
  refine zD hS Xh fQ (x:=C[i]) (by simp[bW]) bW (i:=1) rfl ?_
  rw[EZ bW e]
  exact⟨_,⟨rfl,rfl⟩,eW.iff.2 ⟨v,aR hS⟩⟩
 | false=>
  refine zw ?_
  have e:fe C key=none:=by
   rw[hk]at xO
   cases hg:fe C key with
   | none=>rfl
   | some x=>rw[hg]at xO;cases xO
  rw[e]
  exact⟨_,⟨rfl,rfl⟩,eW.iff.2 ⟨v,aR hS⟩⟩
theorem Y1(n:Int)(h1 : -1000000<=n)(h2:n<=9000000000000000000):SP 171 [dg b,.int .i64 key,.int .i64 n] [.ob (eW (b,C))] (λu post=>post=[fO u (iu C key n),.ob (eW (b,C))]):=by
 intro W F w hS;apply bFx;delta IK bw ai;(try simp only[app]at hS)
 obtain⟨v,hS⟩:=eW.iff.1 hS
 refine Cc (yL b C key hs hn v) ?_;clear hS
 rintro u post ⟨i,hA,rfl,rfl⟩ w hS
 (try simp only[app]at hS);refine Gp ?_
 have ha:=hA.after hs n
 have hle:=hA.le
 obtain⟨k,hk⟩:∃k,k=if kn C key i=true then i+1 else i:=⟨_,rfl⟩
 rw[<- hk]at ha
 have iM:k<=C.length:=by
  rw[hk];split
  ·rename_i h
   obtain⟨bW,_⟩:=of_decide_eq_true h
   omega
  ·exact hle
 refine⟨λus w=>us=[.int .i64 (k:Nat)]/\SL W (.pt b [v] 250::fO v C::F) w,?_,?_⟩
 ·cases hq:kn C key i with
  | true=>
   refine zw ?_
   refine Gp ?_
   exact⟨by rw[hk,hq,if_pos rfl],aR hS⟩
  | false=>
   refine zq ?_
   exact⟨by rw[hk,hq,if_neg (by decide)],aR hS⟩
 clear hS
 rintro v7 w ⟨da,hS⟩
 cases da
 refine Gp ?_
 refine a7f hS Xh iM λA c hc g7=>?_
 refine Gp ?_
 obtain⟨m,hm⟩:∃m,m=min n.toNat (C.length-k):=⟨_,rfl⟩
 have em:max (min n ((C.length-k:Nat):Int)) 0=((m:Nat):Int):=by omega
 rw[em]
 refine⟨A,C.length-k,c,0,m,c,rfl,rfl,⟨_,rfl⟩,rfl,Nat.zero_le _,by omega,Nat.le_refl _,?_⟩
 have eA:(if c=0 then A else A.map (·.add (0*2)))=A:=by
  split
  ·rfl
  ·cases A<;>simp[Addr.add]
 rw[eA,Nat.sub_zero,Nat.sub_zero]
 have U9:((C.map dX).flatten.drop (k*2)).take (m*2)=((iu C key n).map dX).flatten:=by
  rw[nA fQ,od fQ,ha]
  congr 2
  rcases Nat.lt_or_ge n.toNat (C.length-k) with h|h
  ·congr 1;omega
  ·rw[List.take_of_length_le (by rw[List.length_drop];omega),List.take_of_length_le (by rw[List.length_drop];omega)]
 have el:m=(iu C key n).length:=by rw[ha,List.length_take,List.length_drop];omega
 have O_:∀v0 w R,A_ 2 24 [.int .i64 0,.string ⟨#[]⟩] 52 52 v0 w R->aw 170 [v0] w R:=λv0 w R h=>S6 v0 w R h
 refine O_ _ _ _ (Mr (sz:=2) (iC:=24) (z:=[.int .i64 0,.string ⟨#[]⟩]) (t:=52) (ts:=52) (n:=m) (cs:=((iu C key n).map dX).flatten) ⟨A,c,rfl⟩ (λw' d h=>?_) (by rw[jF fQ,<- el]) rfl (by decide) (m_ sO _) (by omega) (by omega) hS λu w hS=>?_)
 ·rw[<- U9]
  exact g7 m c w' _ (by omega) h (.tl Xh)
 ·rw[el]at hS
  exact⟨_,rfl,SL.b6 (eW.put hS Xp) Xi⟩
end
theorem QQ(b:Nat)(C:List Row):SP 223 [dg b] [.ob (eW (b,C))] (dj (.int .i64 (C.length:Nat)) [.ob (eW (b,C))]):=by
 intro W F w hS;apply bI3;delta Js bw;(try simp only[app]at hS)
 obtain⟨v,hS⟩:=eW.iff.1 hS
 refine Gp ?_
 refine zr hS Xh ?_
 exact⟨_,⟨rfl,rfl⟩,eW.iff.2 ⟨v,aR hS⟩⟩
theorem Yl(H:aW)(v:Value)(l:List Row)(hv:dy H 2 v l.length (l.map dX).flatten)(hl:l.length<=100000):SP 136 [v] [.mem H] (λu post=>∃b,u=dg b/\post=[.ob (eW (b,l_ [] l)),.mem H]):=by
 intro W F w hS;apply bw6;delta Ii aF a_ ai c_ bF;(try simp only[app]at hS)
 refine Gp ?_
 refine zK hS λxb w hS=>?_
 have hS:SL W (fO (.slice none 0 0) []::_) _:=a7.nil hS
 have hS:SL W (.ob (eW (xb,[]))::.mem H::F) _:=eW.iff.2 ⟨_,aR hS⟩
 refine zm hv ?_
 refine⟨λus w=>∃i:Nat,us=[.int .i64 i]/\i<=l.length/\SL W (.ob (eW (xb,l_ [] (l.take i)))::.mem H::F) w,λus _=>match us with|[.int _ i]=>(l.length-i).toNat|_=>0,⟨0,rfl,by omega,hS⟩,?_⟩
 clear hS
 rintro v10 w ⟨i,da,hi,hS⟩
 cases da
 refine bR (λh=>?_) (λh=>?_)
 ·have bW:i<l.length:=by omega
  have hp:=aF8 bW []
  have gK:=RP (l.take i) (C:=[]) List.Pairwise.nil
  have vT:=RO (l.take i) []
  rw[List.length_take,List.length_nil]at vT
  refine zS hS Xh fQ hv (x:=l[i]) (by simp[bW]) bW ?_
  generalize l[i]=r at *
  have hP:(l_ [] (l.take i)).length<=1000000:=by omega
  clear vT
  generalize l_ [] (l.take i)=P at *
  obtain⟨rk,rv⟩:=r
  rw[Ea]
  refine Gm λb w hS=>?_
  refine Cc (Ym xb P rk gK hP rv) ?_;clear hS
  rintro u post ⟨⟨q,rfl⟩,rfl⟩ w hS
  (try simp only[app]at hS);refine Gp ?_
  rw[<- hp]at hS
  exact⟨⟨i+1,rfl,by omega,aR hS⟩,by dsimp only;omega⟩
 ·obtain rfl:i=l.length:=by omega
  rw[List.take_length]at hS
  exact⟨_,⟨xb,rfl,rfl⟩,aR hS⟩
structure dh where
 file:Int
 first:Int
 size:Nat
 es:List kO
 a:Option Addr
 c:Nat
def dh.lv(x:dh):Value:=.slice x.a x.es.length x.c
def dh.pl(x:dh):dz:=⟨x.file,x.first,x.size,j5 x.es⟩
def eK(x:dh):List Value:=[.int .i64 x.file,.int .i64 x.first,.int .i64 x.size,x.lv]
theorem sw(x:dh):(eK x).length=4:=rfl
theorem oR(es:List kO):(j5 es).length=es.length:=by simp[j5]
def dF(x:dh):zC:=zP True [.ob (dC x.lv 62 1 x.es.length (eO x.es)),.ob (zf eV x.es)]
theorem dF.iff{W w:World}{x:dh}{l:List Chunk}:SL W (.ob (dF x)::l) w↔SL W (.ob (dC x.lv 62 1 x.es.length (eO x.es))::.ob (zf eV x.es)::l) w:=by
 unfold dF
 simp only[SL.fact,List.cons_append,List.nil_append,true_and]
def fV(v:Value)(t:Option tN):zC:=match t with
 | none=>zP (v= .pointer none) []
 | some x=>jQ λb:Nat=>zP (v= .pointer (some ⟨b,0,none⟩)) [.pt b [.int .i64 x.file,.int .i64 x.kV,.bool x.fresh] 408]
theorem w4{W w:World}{v:Value}{l:List Chunk}:SL W (.ob (fV v none)::l) w↔v= .pointer none/\SL W l w:=by
 unfold fV
 simp only[SL.fact,List.nil_append]
theorem Dn{W w:World}{v:Value}{x:tN}{l:List Chunk}:SL W (.ob (fV v (some x))::l) w↔∃b:Nat,v= .pointer (some ⟨b,0,none⟩)/\SL W (.pt b [.int .i64 x.file,.int .i64 x.kV,.bool x.fresh] 408::l) w:=by
 unfold fV
 simp only[SL.ex,SL.fact,List.cons_append,List.nil_append]
abbrev fx(sv tv:Value)(dp:Nat)(base size:Int):List Value:=[sv,.pointer (some ⟨dp,0,none⟩),.int .i64 base,.int .i64 size,tv]
abbrev fm(sv:Value)(xs:List dh):Chunk:=.ob (dC sv 228 4 xs.length (xs.map eK).flatten)
abbrev Hx(lp dp:Nat)(base size:Int)(t:Option tN)(sv tv:Value)(xs:List dh):List Chunk:=[.pt lp (fx sv tv dp base size) 148,fm sv xs,.ob (zf dF xs),.ob (fV tv t)]
def eb(lp dp:Nat)(g:dJ):zC:=jQ λx:Value × Value × List dh=>zP (x.2.2.map dh.pl=g.bI) (Hx lp dp g.base g.size g.dM x.1 x.2.1 x.2.2)
theorem eb.iff{W w:World}{lp dp:Nat}{g:dJ}{l:List Chunk}:SL W (.ob (eb lp dp g)::l) w↔∃sv tv xs,xs.map dh.pl=g.bI/\SL W (.pt lp (fx sv tv dp g.base g.size) 148::fm sv xs::.ob (zf dF xs)::.ob (fV tv g.dM)::l) w:=by
 unfold eb Hx
 simp only[SL.ex,SL.fact,List.cons_append,List.nil_append]
 exact⟨λ⟨x,h1,h2⟩=>⟨x.1,x.2.1,x.2.2,h1,h2⟩,λ⟨a,b,c,h1,h2⟩=>⟨(a,b,c),h1,h2⟩⟩
section
variable {W w:World} {l:List Chunk}
theorem YP{v:Value}{xs:List dh}{j:Nat}{k:IntKind}{K:Value->Prop}(h:SL W l w)(m:Has (fm v xs) l)(hj:j<xs.length)(hK:K (.agg (eK xs[j]).toArray)):zh 4 v (.int k (j:Int)) λp=>zj 4 p w K:=by
 refine yC h m hj λb o hb=>⟨⟨b,o,none⟩,eK xs[j],rfl,rfl,λi u hu=>?_,hK⟩
 rw[Addr.add_lit]
 have hi:i<4:=(List.getElem?_eq_some_iff.1 hu).1
 exact hb i u hi (ud sw hj hu)
theorem Sf{v u:Value}{xs:List dh}{i j:Nat}{k:IntKind}{K:Value->Prop}(h:SL W l w)(m:Has (fm v xs) l)(hj:j<xs.length)(hu:(eK xs[j])[i]?=some u)(hK:K u):zh 4 v (.int k (j:Int)) λp=>zu i p λq=>cR q w K:=by
 refine yC h m hj λb o hb=>?_
 refine zQ ?_
 have hi:i<4:=(List.getElem?_eq_some_iff.1 hu).1
 exact⟨_,u,rfl,hb i u hi (ud sw hj hu),hK⟩
end
theorem Np(xs:List dh):(xs.map eK).flatten.length=xs.length*4:=by
 induction xs with
 | nil=>rfl
 | cons x xs ih=>simp[ih,sw];omega
theorem yU(f n s:Int)(a:Option Addr)(k c:Nat)(h : -1000000000000000<=n/\n<=1000000000000000)(hk:k<=1000000000000000):SP 152 [.agg #[.int .i64 f,.int .i64 n,.int .i64 s,.slice a k c]] [] (dj (.int .i64 (n+k)) []):=by
 intro W F w hS;apply bFk;delta Ix a_;(try simp only[app]at hS)
 refine⟨[.int .i64 f,.int .i64 n,.int .i64 s,.slice a k c],rfl,?_⟩
 refine Gm λb w hS=>?_
 (exact dq hS)
theorem ZY(x:dh){N:Nat}(h:jA x.pl N)(hN:N<=1000000000000000):SP 152 [.agg (eK x).toArray] [] (dj (.int .i64 x.pl.next) []):=by
 have h1:=h.n0;have h2:=h.n1;have h3:=h.ln
 have e:x.pl.next=x.first+x.es.length:=by simp[dz.next,dh.pl,oR]
 rw[e]
 have h3:x.es.length<=N:=by simpa [dh.pl,oR] using h3
 exact yU x.file x.first x.size x.a x.es.length x.c (by simp only[dh.pl]at h1 h2;omega) (by omega)
theorem yi(lp:Nat)(cs:List Value)(t:TypeId)(sv:Value)(xs:List dh)(lH:cs[0]?=some sv){N:Nat}(h:∀s∈xs.map dh.pl,jA s N)(hN:N<=1000000000000000)(hl:xs.length<=1000000000000000):
  SP 69 [.pointer (some ⟨lp,0,none⟩)] [.pt lp cs t,fm sv xs] (dj (.int .i64 (b9 (xs.map dh.pl))) [.pt lp cs t,fm sv xs]):=by
 intro W F w hS;apply b6a;delta Lf aF bw ai;(try simp only[app]at hS)
 refine Gp ?_
 refine zX hS .hd lH ?_
 refine zT hS Xh ?_
 refine Gp ?_
 have hh:=rS h
 refine za (λh0=>?_) (λh0=>?_)
 ·have:xs=[]:=List.eq_nil_of_length_eq_zero (by omega)
  subst this
  (exact dq hS)
 ·refine Gn λw hS=>?_
  refine zX hS .hd lH ?_
  refine Gp ?_
  refine zX hS .hd lH ?_
  refine zT hS Xh ?_
  refine Gp ?_
  have e:((xs.length:Nat):Int)-1=((xs.length-1:Nat):Int):=by omega
  rw[e]
  have hj:xs.length-1<xs.length:=by omega
  refine YP hS Xh hj ?_
  have hm:(xs[xs.length-1]'hj).pl∈xs.map dh.pl:=List.mem_map.2 ⟨_,List.getElem_mem hj,rfl⟩
  have hg:b9 (xs.map dh.pl)=(xs[xs.length-1]'hj).pl.next-1:=by
   unfold b9
   rw[List.getLast?_map,List.getLast?_eq_getElem?,List.getElem?_eq_getElem hj];rfl
  have b5:=h _ hm
  rw[hg]at hh ⊢
  refine Cg (ZY _ b5 hN) λw hS=>?_
  exact dq hS
theorem QU(lp:Nat)(cs:List Value)(t:TypeId)(sv:Value)(xs:List dh)(lH:cs[0]?=some sv)(hl:xs.length<=1000000000000000):
  SP 70 [.pointer (some ⟨lp,0,none⟩)] [.pt lp cs t,fm sv xs] (dj (.int .i64 (e_ (xs.map dh.pl))) [.pt lp cs t,fm sv xs]):=by
 intro W F w hS;apply b6b;delta Lg aF bw a_ ai;(try simp only[app]at hS)
 refine Gp ?_
 refine zX hS .hd lH ?_
 refine zT hS Xh ?_
 refine bR (λh0=>?_) (λh0=>?_)
 ·have:xs=[]:=List.eq_nil_of_length_eq_zero (by omega)
  subst this
  (exact dq hS)
 ·cases xs with
  | nil=>simp at h0
  | cons x xs=>
   refine Gp ?_
   refine zX hS .hd lH ?_
   refine Sf (j:=0) (i:=1) hS Xh (by simp) (u:=.int .i64 x.first) rfl ?_
   exact⟨_,⟨rfl,rfl⟩,hS⟩
theorem zf.back{W w:World}{l:List Chunk}{α:Type}{A:α->zC}{xs:List α}{t:Nat}{x:α}(h:SL W (.ob (A x)::.ob (zf A (xs.eraseIdx t))::l) w)(hx:xs[t]?=some x):SL W (.ob (zf A xs)::l) w:=by
 obtain⟨ht,e⟩:=List.getElem?_eq_some_iff.1 hx
 have:=zf.put h ht
 rwa [<- e,List.set_getElem_self]at this
theorem Tb(x:dh):x.pl.next=x.first+x.es.length:=by simp[dz.next,dh.pl,oR]
theorem aRs(xs:List dh)(i:Nat)(n:Int):g9 ((xs.drop i).map dh.pl) n=match xs[i]? with
 | none=>none
 | some x=>if x.first<=n/\n<x.pl.next then (j5 x.es)[(n-x.first).toNat]? else g9 ((xs.drop (i+1)).map dh.pl) n:=by
 cases h:xs[i]? with
 | none=>
  have:xs.drop i=[]:=List.drop_eq_nil_of_le (by rw[List.getElem?_eq_none_iff]at h;exact h)
  rw[this];rfl
 | some x=>
  obtain⟨hi,e⟩:=List.getElem?_eq_some_iff.1 h
  rw[List.drop_eq_getElem_cons hi,e];rfl
def wX(pre:List Chunk)(o:Option (List UInt8))(r:Value)(post:List Chunk):Prop:=match o with
 | none=>r= .tuple #[.slice none 0 0,.int .i64 5]/\post=pre
 | some b=>∃u,r= .tuple #[u,.int .i64 0]/\post= .ob (a7 u 5 1 b.length (b.map cI))::pre
theorem qS(lp:Nat)(cs:List Value)(t:TypeId)(sv:Value)(xs:List dh)(n:Int)(lH:cs[0]?=some sv){N:Nat}(h:∀s∈xs.map dh.pl,jA s N)(hN:N<=1000000000000000)(hl:xs.length<=1000000000000000)(hn : -9000000000000000000<=n/\n<=9000000000000000000):
  SP 71 [.pointer (some ⟨lp,0,none⟩),.int .i64 n] [.pt lp cs t,fm sv xs,.ob (zf dF xs)] (wX [.pt lp cs t,fm sv xs,.ob (zf dF xs)] (g9 (xs.map dh.pl) n)):=by
 intro W F w hS;apply b6c;delta Lh aF bw a_ ai bF;(try simp only[app]at hS)
 refine Gp ?_
 refine zX hS .hd lH ?_
 refine zT hS Xh ?_
 refine⟨λvs w=>∃i:Nat,i<=xs.length/\vs=[.int .i64 i]/\g9 (xs.map dh.pl) n=g9 ((xs.drop i).map dh.pl) n/\SL W (.pt lp cs t::fm sv xs::.ob (zf dF xs)::F) w,λvs _=>match vs with
  | [.int _ i]=>xs.length-i.toNat
  | _=>0,⟨0,by omega,rfl,rfl,hS⟩,?_⟩
 clear hS
 rintro v1 w1 ⟨i,hi,hv,hr,hS⟩
 cases hv
 rw[aRs]at hr
 refine bR (λh0=>?_) (λh0=>?_)
 ·have hj:i<xs.length:=by omega
  have hx:xs[i]?=some xs[i]:=List.getElem?_eq_getElem hj
  refine YP hS Xh hj ?_
  have b5:=h _ (List.mem_map.2 ⟨_,List.getElem_mem hj,rfl⟩)
  rw[hx]at hr
  simp only at hr
  generalize xs[i]=x at *
  have jH:=Tb x
  unfold eK dh.lv
  refine Gm λb w hS=>?_
  refine za (λh1=>?_) (λh1=>?_)
  ·refine Gp ?_
   refine Cg (ZY x b5 hN) λw hS=>?_
   refine za (λh2=>?_) (λh2=>?_)
   ·rw[if_pos ⟨h1,h2⟩]at hr
    have xP:=b5.n0
    have WK:=b5.n1
    simp only[dh.pl]at xP WK
    refine Gp ?_
    obtain⟨j,E8⟩:=Int.eq_ofNat_of_zero_le (show 0<=n-x.first by omega)
    have fG:j<x.es.length:=by omega
    rw[E8]at hr ⊢
    have hS:=zf.take (SL.b6 hS (t:=.ob (zf dF xs)::.pt lp cs t::fm sv xs::F) Xi) hx
    have hS:=dF.iff.1 hS
    unfold dh.lv at hS
    refine yC (j:=j) hS .hd fG λb o hb=>?_
    have xM:x.es[j]?=some x.es[j]:=List.getElem?_eq_getElem fG
    have lM:(eO x.es)[j*1+0]?=some x.es[j].1:=by simp[eO,fG]
    refine⟨_,_,rfl,hb 0 _ (by omega) lM,?_⟩
    have hS:=zf.take (SL.b6 hS (t:=.ob (zf eV x.es)::.ob (dC (.slice x.a x.es.length x.c) 62 1 x.es.length (eO x.es))::.ob (zf dF (xs.eraseIdx i))::.pt lp cs t::fm sv xs::F) Xi) xM
    have rQ:x.es[j].2.length<=1048576:=b5.bl _ (List.mem_map.2 ⟨_,List.getElem_mem fG,rfl⟩)
    have EP:(j5 x.es)[((j:Int)).toNat]?=some x.es[j].2:=by simp[j5,fG]
    rw[EP]at hr
    rw[hr]
    generalize x.es[j]=e at *
    have hR:dN (.ob (eV e)) e.1 e.2:=dN.own
    obtain⟨ea,ec,ee,_⟩:=hR.sl hS .hd
    have jU:=hR
    rw[ee]at jU ⊢
    refine Zq (cs:=e.2.map cI) hS (λw' c gx=>jU.src gx (.tl .hd)) (by simp) (j3 _) (by omega) ?_
    clear hS;intro u w hS _
    have hS:=zf.back (SL.b6 hS (t:=.ob (eV e)::.ob (zf eV (x.es.eraseIdx j))::.ob (dC (.slice x.a x.es.length x.c) 62 1 x.es.length (eO x.es))::.ob (a7 u 5 1 e.2.length (e.2.map cI))::.ob (zf dF (xs.eraseIdx i))::.pt lp cs t::fm sv xs::F) Xi) xM
    have hS:=(dF.iff (x:=x)).2 (SL.b6 hS (t:=.ob (dC (.slice x.a x.es.length x.c) 62 1 x.es.length (eO x.es))::.ob (zf eV x.es)::.ob (a7 u 5 1 e.2.length (e.2.map cI))::.ob (zf dF (xs.eraseIdx i))::.pt lp cs t::fm sv xs::F) Xi)
    have hS:=zf.back (SL.b6 hS (t:=.ob (dF x)::.ob (zf dF (xs.eraseIdx i))::.ob (a7 u 5 1 e.2.length (e.2.map cI))::.pt lp cs t::fm sv xs::F) Xi) hx
    exact⟨.ob (a7 u 5 1 e.2.length (e.2.map cI))::[.pt lp cs t,fm sv xs,.ob (zf dF xs)],⟨u,rfl,rfl⟩,aR hS⟩
   ·rw[if_neg (by omega)]at hr
    refine Gp ?_
    refine⟨⟨i+1,by omega,rfl,hr,aR hS⟩,?_⟩
    simp only[Int.toNat_natCast];omega
  ·rw[if_neg (by omega)]at hr
   refine Gp ?_
   refine⟨⟨i+1,by omega,rfl,hr,aR hS⟩,?_⟩
   simp only[Int.toNat_natCast];omega
 ·have hx:xs[i]?=none:=List.getElem?_eq_none (by omega)
  rw[hx]at hr
  rw[hr]
  exact⟨_,⟨rfl,rfl⟩,hS⟩
def oW(p:Nat × List Row):List Value:=[dg p.1]
theorem vz(p:Nat × List Row):(oW p).length=1:=rfl
abbrev jR(v:Value)(L:List (Nat × List Row)):Chunk:=.ob (a7 v 162 1 L.length (L.map oW).flatten)
def eP(sp:Nat)(ts:List (List Row)):zC:=jQ λx:Value × List (Nat × List Row)=>zP (x.2.map Prod.snd=ts) [.pt sp [x.1] 165,jR x.1 x.2,.ob (zf eW x.2)]
theorem eP.iff{W w:World}{sp:Nat}{ts:List (List Row)}{l:List Chunk}:SL W (.ob (eP sp ts)::l) w↔∃v L,L.map Prod.snd=ts/\SL W (.pt sp [v] 165::jR v L::.ob (zf eW L)::l) w:=by
 unfold eP
 simp only[SL.ex,SL.fact,List.cons_append,List.nil_append]
 exact⟨λ⟨x,h1,h2⟩=>⟨x.1,x.2,h1,h2⟩,λ⟨v,L,h1,h2⟩=>⟨(v,L),h1,h2⟩⟩
theorem eP.put{W w:World}{sp:Nat}{v:Value}{L:List (Nat × List Row)}{ts:List (List Row)}{l F:List Chunk}(hL:L.map Prod.snd=ts)(hS:SL W l w)(p:gq [.pt sp [v] 165,jR v L,.ob (zf eW L)] l F):SL W (.ob (eP sp ts)::F) w:=eP.iff.2 ⟨v,L,hL,hS.pick p⟩
theorem tC{L:List (Nat × List Row)}{ts:List (List Row)}(h:L.map Prod.snd=ts):L.length=ts.length:=by rw[<- h,List.length_map]
theorem AP{L:List (Nat × List Row)}{ts:List (List Row)}(h:L.map Prod.snd=ts){i:Nat}(hi:i<ts.length):∃b,L[i]?=some (b,ts[i]):=by
 subst h
 have hl:i<L.length:=by simpa using hi
 exact⟨L[i].1,by rw[List.getElem?_eq_getElem hl];simp⟩
theorem Sr{L:List (Nat × List Row)}{ts:List (List Row)}(h:L.map Prod.snd=ts)(i:Nat)(b:Nat)(C:List Row):(L.set i (b,C)).map Prod.snd=ts.set i C:=by
 rw[<- h,List.map_set]
theorem one_set{L:List (Nat × List Row)}{i b:Nat}{C D:List Row}(h:L[i]?=some (b,C)):(L.set i (b,D)).map oW=L.map oW:=by
 refine List.ext_getElem (by simp) λj h1 h2=>?_
 simp only[List.length_map,List.length_set]at h1
 rw[List.getElem_map,List.getElem_map,List.getElem_set]
 split
 ·rename_i e
  subst e
  rw[List.getElem?_eq_getElem h1]at h
  rw[Option.some.inj h];rfl
 ·rfl
theorem jR.set{W w:World}{v:Value}{L:List (Nat × List Row)}{i b:Nat}{C D:List Row}{l:List Chunk}(h:L[i]?=some (b,C))(hS:SL W (jR v L::l) w):SL W (jR v (L.set i (b,D))::l) w:=by
 have e:=one_set (D:=D) h
 have e2:(L.set i (b,D)).length=L.length:=List.length_set
 unfold jR
 rw[e,e2];exact hS
section
variable (sp:Nat) (ts:List (List Row))
theorem yR:SP 59 [dg sp] [.ob (eP sp ts)] (dj (.int .i64 (ts.length:Nat)) [.ob (eP sp ts)]):=by
 intro W F w hS;apply b53;delta K9 bw;(try simp only[app]at hS)
 obtain⟨v,L,hL,hS⟩:=eP.iff.1 hS
 rw[<- tC hL]
 refine Gp ?_
 refine zr hS Xh ?_
 exact⟨_,⟨rfl,rfl⟩,SL.b6 (eP.put hL hS Xp) Xi⟩
theorem Za(t:Int):SP 81 [dg sp,.int .i64 t] [.ob (eP sp ts)] (dj (.bool (decide (0<=t/\t<ts.length))) [.ob (eP sp ts)]):=by
 intro W F w hS;apply b6i;delta Ln aF bw b7 ai;(try simp only[app]at hS)
 obtain⟨v,L,hL,hS⟩:=eP.iff.1 hS
 have hl:=tC hL
 refine bR (λh=>?_) (λh=>?_)
 ·refine Gp ?_
  refine zr hS Xh ?_
  refine Gp ?_
  rw[show decide (0<=t/\t<(ts.length:Int))=decide (t<(L.length:Int)) from decide_eq_decide.2 ⟨λh=>by omega,λh=>by omega⟩]
  exact⟨_,⟨rfl,rfl⟩,SL.b6 (eP.put hL hS Xp) Xi⟩
 ·rw[show decide (0<=t/\t<(ts.length:Int))=false from decide_eq_false λh=>by omega]
  exact⟨_,⟨rfl,rfl⟩,SL.b6 (eP.put hL hS Xp) Xi⟩
theorem G9{ts:List (List Row)}{t:Int}(h:¬(0<=t/\t<ts.length)):iG ts t=[]:=by
 unfold iG
 split
 ·rfl
 ·rw[List.getElem?_eq_none (by omega)];rfl
theorem qv(t key n:Int)(hn:∀C∈ts,C.length<=1000000)(hs:∀C∈ts,fZ C)(h1 : -1000000<=n)(h2:n<=9000000000000000000):SP 83 [dg sp,.int .i64 t,.int .i64 key,.int .i64 n] [.ob (eP sp ts)] (λu post=>post=[fO u (iu (iG ts t) key n),.ob (eP sp ts)]):=by
 intro W F w hS;apply b6j;delta Lo bw a_ dc bF;(try simp only[app]at hS)
 refine Cg (Za sp ts t) λw hS=>?_
 refine zA (λh=>?_) (λh=>?_)
 ·rw[G9 (of_decide_eq_false h),show iu [] key n=[] by simp[iu]]
  exact⟨_,rfl,a7.nil hS⟩
 ·obtain⟨h0,h3⟩:=of_decide_eq_true h
  obtain⟨t,rfl⟩:∃n:Nat,t=n:=⟨t.toNat,by omega⟩
  have ht:t<ts.length:=by omega
  rw[nf ts t ht]
  obtain⟨v,L,hL,hS⟩:=eP.iff.1 hS
  obtain⟨b,hb⟩:=AP hL ht
  have hl:=tC hL
  refine Gp ?_
  refine zD hS Xh vz hb (by omega) (i:=0) rfl ?_
  have hS:=zf.take (SL.b6 hS (t:=.ob (zf eW L)::.pt sp [v] 165::jR v L::F) Xi) hb
  refine Cc (Y1 b ts[t] key (hs _ (List.getElem_mem ht)) (hn _ (List.getElem_mem ht)) n h1 h2) ?_;clear hS
  rintro u post rfl w hS
  try simp only[app]at hS
  have hS:=zf.back (SL.b6 hS (t:=.ob (eW (b,ts[t]))::.ob (zf eW (L.eraseIdx t))::fO u (iu ts[t] key n)::.pt sp [v] 165::jR v L::F) Xi) hb
  exact⟨_,rfl,SL.b6 (eP.put hL hS Xp) Xi⟩
end
def wU(n:Int)(u:Value)(post:List Chunk):Prop:=if n<1\/8<n then u= .tuple #[.pointer none,.int .i64 1]/\post=[] else ∃sp,u= .tuple #[dg sp,.int .i64 0]/\post=[.ob (eP sp (List.replicate n.toNat []))]
theorem Q9(n:Int):SP 54 [.int .i64 n] [] (wU n):=by
 intro W F w hS;apply b5z;delta K5 aF dx cF df ai dk bF;(try simp only[app]at hS)
 refine Gp ?_
 refine za (λh=>⟨[],by unfold wU;rw[if_pos (.inl h)];exact⟨rfl,rfl⟩,hS⟩) (λh1=>?_)
 refine Gp ?_
 refine za (λh=>⟨[],by unfold wU;rw[if_pos (.inr h)];exact⟨rfl,rfl⟩,hS⟩) (λh2=>?_)
 refine Gp ?_
 refine zK hS λsp w hS=>?_
 have hS:SL W (jR (.slice none 0 0) []::_) _:=a7.nil hS
 have hS:SL W (.ob (zf eW [])::_) _:=zf.nil hS
 refine⟨λus w=>∃(i:Nat) (v:Value) (L:List (Nat × List Row)),us=[.int .i64 i]/\i<=n/\L.map Prod.snd=List.replicate i []/\SL W (.pt sp [v] 165::jR v L::.ob (zf eW L)::F) w,
  λus _=>match us with|[.int _ i]=>(n-i).toNat|_=>0,⟨0,_,[],rfl,by omega,rfl,aR hS⟩,?_⟩
 clear hS
 rintro C1 w ⟨i,v,L,da,hi,hL,hS⟩
 cases da
 have hl:=tC hL
 rw[List.length_replicate]at hl
 refine bR (λh=>?_) (λh=>?_)
 ·refine Gn λw hS=>?_
  have hS:=SL.F8 hS
  refine Cc (Yl aW.emp (.slice none 0 0) [] (dy.nil _ _) (by decide)) ?_;clear hS
  rintro u post ⟨xb,rfl,rfl⟩ w hS
  refine Gm λb w hS=>?_
  refine yu (n:=L.length) (xs:=L) (y:=(xb,[])) (enc:=oW) hS Xr Xh vz (λx=>by simp[oW,Value.oneCell']) rfl (by omega) (by omega) λu w hS=>?_
  have kj:=a7.one hS
  refine Gn λw hS=>?_
  refine⟨⟨i+1,u,L++[(xb,[])],rfl,by omega,by rw[List.map_append,hL,List.replicate_succ'];rfl,?_⟩,by dsimp only;omega⟩
  have hS:=hS.oJ (x:=(xb,([]:List Row)))
  rw[show l_ [] []=[] from rfl]at hS
  have hS:=zf.snoc (SL.b6 hS (t:=.ob (zf eW L)::.ob (eW (xb,[]))::.pt sp [u] 165::jR u (L++[(xb,[])])::F) Xi)
  exact aR hS
 ·refine⟨[.ob (eP sp (List.replicate n.toNat []))],?_,SL.b6 (eP.put (ts:=List.replicate n.toNat []) (by rw[hL];congr 1;omega) hS Xp) Xi⟩
  unfold wU
  rw[if_neg (by omega)]
  exact⟨sp,rfl,rfl⟩
theorem TQ{ts:List (List Row)}(h:∀C∈ts,fZ C){c:dW}(ht:gd ts.length c=true):∀C∈jf ts c,fZ C:=λC hC=>by
 rcases F9 hC with hC|rfl
 ·exact h C hC
 ·have h1:=h _ (CU (of_decide_eq_true ht))
  unfold j1
  split
  ·exact Sx h1 _
  ·exact G0 h1 _
theorem Be:∀{l:List dW} {ts:List (List Row)},(∀C∈ts,fZ C)->(∀c∈l,gd ts.length c=true)->∀C∈eZ ts l,fZ C
 | [],ts,h,_=>h
 | c::l,ts,h,h2=>by
  show ∀C∈eZ (jf ts c) l,fZ C
  refine Be (TQ h (h2 c (.head _))) λx hx=>?_
  rw[tQ];exact h2 x (.tail _ hx)
theorem a_q(b:Nat)(C D:List Row)(c:dW)(hs:fZ C)(hn:C.length<=1000000):SP 221 [agg (oW (b,D)),agg (gi c)] [.ob (eW (b,C))] (λ_ post=>post=[.ob (eW (b,j1 C c))]):=by
 intro W F w hS;apply bI1;delta Jq a_;(try simp only[app]at hS)
 refine zK hS λxb w hS=>?_
 refine zK hS λyb w hS=>?_
 unfold gi oW at hS
 obtain⟨ct,ck,cg,cv⟩:=c
 refine Gp ?_
 cases cg with
 | true=>
  refine zw ?_
  refine Gp ?_
  refine Cc (QO b C ck hs hn) ?_;clear hS
  rintro u post ⟨⟨q,rfl⟩,rfl⟩ w hS
  try simp only[app]at hS
  have hS:SL W (.ob (eW (b,j1 C ⟨ct,ck,true,cv⟩))::_::_::F) _:=hS
  exact⟨_,rfl,aR hS⟩
 | false=>
  refine zq ?_
  refine Gp ?_
  refine Cc (Ym b C ck hs hn cv) ?_;clear hS
  rintro u post ⟨⟨q,rfl⟩,rfl⟩ w hS
  try simp only[app]at hS
  have hS:SL W (.ob (eW (b,j1 C ⟨ct,ck,false,cv⟩))::_::_::F) _:=hS
  exact⟨_,rfl,aR hS⟩
section
variable (sp:Nat) (ts:List (List Row)) (H:aW) (v:Value) (l:List dW) (hv:dy H 4 v l.length (l.map gi).flatten) (hl:l.length<=140737488351232)
include hv hl
theorem Yz:SP 220 [dg sp,v] [.ob (eP sp ts),.mem H] (dj (.bool (l.all (gd ts.length))) [.ob (eP sp ts),.mem H]):=by
 intro W F w hS;apply bI0;delta Jp aF a_ dc b7 ai c_;(try simp only[app]at hS)
 refine zm hv ?_
 refine⟨λus w=>∃i:Nat,us=[.int .i64 i]/\i<=l.length/\(∀j (h:j<l.length),j<i->gd ts.length l[j]=true)/\SL W (.ob (eP sp ts)::.mem H::F) w,λus _=>match us with|[.int _ i]=>(l.length-i).toNat|_=>0,⟨0,rfl,by omega,λj h hj=>by omega,hS⟩,?_⟩
 clear hS
 rintro v9 w ⟨i,da,hi,dY,hS⟩
 cases da
 refine bR (λh=>?_) (λh=>?_)
 ·have bW:i<l.length:=by omega
  refine zS hS Xh kh hv (x:=l[i]) (by simp[bW]) bW ?_
  have hq:gd ts.length l[i]=decide (0<=l[i].table/\l[i].table<(ts.length:Int)):=rfl
  have hf:gd ts.length l[i]=false->l.all (gd ts.length)=false:=λh=>List.all_eq_false.2 ⟨_,List.getElem_mem bW,by rw[h];decide⟩
  have EM:gd ts.length l[i]=true->∀j (h:j<l.length),j<i+1->gd ts.length l[j]=true:=λh j hj gZ=>by
   by_cases e:j=i
   ·subst e;exact h
   ·exact dY j hj (by omega)
  clear dY
  generalize l[i]=c at *
  obtain⟨ct,ck,cg,cv⟩:=c
  refine Gm λb w hS=>?_
  refine Cg (Za sp ts ct) λw hS=>?_
  refine zA (λhb=>?_) (λhb=>?_)
  ·rw[hf (by rw[hq];exact hb)]
   (exact dq hS)
  ·refine Gp ?_
   refine⟨⟨i+1,rfl,by omega,EM (by rw[hq];exact hb),aR hS⟩,by dsimp only;omega⟩
 ·rw[show l.all (gd ts.length)=true from List.all_eq_true.2 λc hc=>by
   obtain⟨j,hj,rfl⟩:=List.getElem_of_mem hc
   exact dY j hj (by omega)]
  (exact dq hS)
theorem ZK(hs:∀C∈ts,fZ C)(N:Nat)(hn:∀C∈ts,C.length<=N)(hN:N+l.length<=1000000):SP 142 [dg sp,v] [.ob (eP sp ts),.mem H] (dj (.bool (l.all (gd ts.length))) [.ob (eP sp (if l.all (gd ts.length)=true then eZ ts l else ts)),.mem H]):=by
 intro W F w hS;apply bFc;delta Ip aF bw a_ dc b7 ai c_;(try simp only[app]at hS)
 refine Cg (Yz sp ts H v l hv hl) λw hS=>?_
 cases ha:l.all (gd ts.length) with
 | false=>
  refine zw ?_
  rw[if_neg (by decide)]
  (exact dq hS)
 | true=>
  refine zq ?_
  rw[if_pos rfl]
  have ha:=List.all_eq_true.1 ha
  refine zm hv ?_
  refine⟨λus w=>∃i:Nat,us=[.int .i64 i]/\i<=l.length/\SL W (.ob (eP sp (eZ ts (l.take i)))::.mem H::F) w,λus _=>match us with|[.int _ i]=>(l.length-i).toNat|_=>0,⟨0,rfl,by omega,hS⟩,?_⟩
  clear hS
  rintro tG w ⟨i,da,hi,hS⟩
  cases da
  refine bR (λh=>?_) (λh=>?_)
  ·have bW:i<l.length:=by omega
   have gK:eZ ts (l.take (i+1))=jf (eZ ts (l.take i)) l[i]:=by rw[List.take_succ_eq_append_getElem bW,DE]
   have kF:=ha _ (List.getElem_mem bW)
   have kU:=pK ts (l.take i)
   have pY:=Be (l:=l.take i) hs λc hc=>ha c (List.mem_of_mem_take hc)
   have nC:=vo N (l:=l.take i) hn λc hc=>ha c (List.mem_of_mem_take hc)
   have pr:(l.take i).length<=l.length:=by rw[List.length_take];omega
   generalize eZ ts (l.take i)=T at *
   refine zS hS Xh kh hv (x:=l[i]) (by simp[bW]) bW ?_
   generalize l[i]=c at *
   obtain⟨ct,ck,cg,cv⟩:=c
   obtain⟨h0,h1⟩:0<=ct/\ct<(ts.length:Int):=of_decide_eq_true kF
   obtain⟨t,rfl⟩:∃n:Nat,ct=n:=⟨ct.toNat,by omega⟩
   have ht:t<T.length:=by omega
   have Am:T[t]∈T:=List.getElem_mem ht
   obtain⟨pv,L,hL,hS⟩:=eP.iff.1 hS
   obtain⟨b0,hb⟩:=AP hL ht
   have EI:=tC hL
   refine Gm λb w hS=>?_
   refine z6 hS Xh vz hb (by omega) ?_
   refine Gp ?_
   have hS:=zf.take (SL.b6 hS (t:=.ob (zf eW L)::.pt sp [pv] 165::jR pv L::.mem H::F) Xi) hb
   refine Cc (a_q b0 T[t] T[t] ⟨t,ck,cg,cv⟩ (pY _ Am) (by have:=nC _ Am;omega)) ?_;clear hS
   rintro u post rfl w hS
   (try simp only[app]at hS);refine Gp ?_
   have hS:=zf.put hS (by omega)
   have hS:=jR.set (D:=j1 T[t] ⟨t,ck,cg,cv⟩) hb (SL.b6 hS (t:=jR pv L::.ob (zf eW (L.set t (b0,j1 T[t] ⟨t,ck,cg,cv⟩)))::.pt sp [pv] 165::.mem H::F) Xi)
   refine⟨⟨i+1,rfl,by omega,?_⟩,by dsimp only;omega⟩
   rw[gK]
   refine SL.b6 (eP.put (ts:=jf T ⟨t,ck,cg,cv⟩) ?_ hS Xp) Xi
   rw[Sr hL t b0]
   unfold jf
   rw[nf T t ht]
   rfl
  ·obtain rfl:i=l.length:=by omega
   rw[List.take_length]at hS
   (exact dq hS)
end
structure wS{κ:Type}[DecidableEq κ](P:Program)(kt:TypeId)(key:κ->Value):Prop where
 wide:∃fs,P.underlying kt=some (.struct fs)
 check:∀(k:κ) (em:Bool) (w:World),(Instr.checkKey em 10000 kt (key k)).run P w= .ok () w
 eq:∀(a b:κ) (w:World),(Op.equal kt (key a) (key b)).run P w= .ok (decide (a=b)) w
 stays:∀(k:κ) (w:World),(Instr.keyThatStays (key k) (key k)).run P w= .ok (key k) w
 inj:∀{a b:κ},key a=key b->a=b
section
variable {W w:World} {l l':List Chunk} {κ α:Type} [DecidableEq κ] {key:κ->Value} {val:α->Value} {b:Nat} {m:List (κ × α)} {P:Program} {t kt et:TypeId} {z:Value} {k:κ}
theorem Bv(ok:wS P kt key)(k:κ)(es:List MapEntry):(Instr.findKey kt (key k) es).run P w=(Instr.findAsking kt (key k) es).run P w:=by
 obtain⟨fs,hd⟩:=ok.wide
 cases es with
 | nil=>simp[Instr.findKey,run_underlying hd,Result.andThen,Instr.findNow,Instr.findAsking]
 | cons e es=>simp[Instr.findKey,run_underlying hd,Result.andThen,Instr.findNow,Instr.sameNow]
theorem Ej(ok:wS P kt key)(k:κ):∀(es:List MapEntry) (m:List (κ × α)) (i:Nat),es.map kv=m.map (kw key val) ->
  ((Instr.findAsking kt (key k) es i).run P w= .ok none w/\gS m k=none/\(∀v,iZ m k v=m++[(k,v)])/\∀x∈es,x.key≠key k) \/
  ∃j e a,(Instr.findAsking kt (key k) es i).run P w= .ok (some (i+j,val a)) w/\es[j]?=some e/\e.key=key k/\gS m k=some a /\
   (∀v,(es.modify j λe=>{e with key:=key k,val:=val v}).map kv=(iZ m k v).map (kw key val))
 | [],[],_,_=>.inl ⟨rfl,rfl,λ_=>rfl,by simp⟩
 | [],_::_,_,h=>by simp at h
 | _::_,[],_,h=>by simp at h
 | e::es,p::m,i,h=>by
  simp only[List.map_cons,List.cons.injEq]at h
  obtain⟨h1,h2⟩:=h
  obtain⟨x,y⟩:=p
  simp only[kv,kw,Prod.mk.injEq]at h1
  obtain⟨mQ,vJ⟩:=h1
  have hq:=ok.eq k x w
  by_cases hx:x=k
  ·subst hx
   rw[decide_eq_true rfl]at hq
   refine .inr ⟨0,e,y,by simp[Instr.findAsking,mQ,hq,vJ,Result.andThen],rfl,mQ,by simp[gS],?_⟩
   intro v;simp[iZ,kv,kw];exact h2
  ·rw[decide_eq_false (λh=>hx h.symm)]at hq
   rcases Ej ok k es m (i+1) h2 with ⟨a1,a2,a3,a5⟩|⟨j,e',a,a1,a2,a3,a4,a5⟩
   ·refine .inl ⟨by simp[Instr.findAsking,mQ,hq,a1,Result.andThen],by simp[gS,hx,a2],λv=>by simp[iZ,hx,a3],?_⟩
    intro z hz
    rcases List.mem_cons.1 hz with rfl|hz
    ·rw[mQ];exact λq=>hx (ok.inj q)
    ·exact a5 z hz
   ·refine .inr ⟨j+1,e',a,by simp[Instr.findAsking,mQ,hq,a1,Result.andThen];omega,by simpa using a2,a3,by simp[gS,hx,a4],?_⟩
    intro v;simp[iZ,hx,kv,kw,mQ,vJ];exact a5 v
theorem aW2{K:Value->Prop}(hS:SL W l w)(hm:Has (.ob (fC key val b m)) l)(ok:wS P kt key)(ht:P.underlying t=some (.map kt et))(hz:∀w,(zeroValue et).run P w= .ok z w)
  (h:K (.tuple #[((gS m k).map val).getD z,.bool (gS m k).isSome])):ga P (Instr.lookup t (.map (some b)) (key k) true) w K:=by
 obtain⟨es,c,e1,e2,hb⟩:=hS.wi hm
 rcases Ej (w:=w) ok k es m 0 e1 with ⟨a1,a2,_,_⟩|⟨j,e,a,a1,_,_,a4,_⟩
 ·refine⟨_,?_,h⟩
  simp[Instr.lookup,run_underlying ht,MapKept.run_getObj_map hb,ok.check,Bv ok,a1,hz,Result.andThen,a2]
 ·refine⟨_,?_,h⟩
  simp[Instr.lookup,run_underlying ht,MapKept.run_getObj_map hb,ok.check,Bv ok,a1,Result.andThen,a4]
theorem Q6{v:α}{K:Value->World->Prop}(hS:SL W l w)(u:gh (.ob (fC key val b m)) (.ob (fC key val b (iZ m k v))) l l')(ok:wS P kt key)(ht:P.underlying t=some (.map kt et))
  (h:∀u w',SL W l' w'->K u w'):zZ P (do Instr.mapUpdate t (.map (some b)) (key k) (val v);pure undef) w K:=by
 obtain⟨es,c,e1,e2,hb⟩:=hS.wi u.has
 rcases Ej (w:=w) ok k es m 0 e1 with ⟨a1,_,a3,a5⟩|⟨j,e,a,a1,a2,a3,_,a5⟩
 ·refine⟨undef,{w with heap:=w.heap.setIfInBounds b (.map (es++[({key:=key k,val:=val v,born:=c}:MapEntry)]).toArray (c+1))},?_,h _ _ (hS.wj u hb (by rw[a3];simp[e1,kv,kw]) ?_)⟩
  ·simp[Instr.mapUpdate,run_underlying ht,MapKept.run_getObj_map hb,ok.check,Bv ok,a1,MapKept.run_setObj_map _ hb,Result.andThen]
  ·have:=MapKept.stamped_push e2 (key:=key k) (val:=val v) (by simpa using a5)
   simpa using this
 ·refine⟨undef,{w with heap:=w.heap.setIfInBounds b (.map (es.modify j λe=>{e with key:=key k,val:=val v}).toArray c)},?_,h _ _ (hS.wj u hb (a5 v) ?_)⟩
  ·have hj:es.toArray[j]?=some e:=by simpa using a2
   simp[Instr.mapUpdate,run_underlying ht,MapKept.run_getObj_map hb,ok.check,Bv ok,a1,a2,a3,ok.stays,MapKept.run_setObj_map _ hb,Result.andThen]
  ·have uz:∀e',es.toArray[j]?=some e'->({e' with key:=key k,val:=val v}:MapEntry).key=e'.key:=λe' nD=>by
    have:es[j]?=some e':=by simpa using nD
    rw[a2]at this;cases this;exact a3.symm
   have:=MapKept.stamped_modify e2 j (λe=>{e with key:=key k,val:=val v}) (λ_ _=>rfl) (λe' _ nD=>uz e' nD)
   simpa using this
end
def xg(p:Int × Int):List Value:=[.int .i64 p.1,.int .i64 p.2]
def ko(p:Int × Int):Value:=agg (xg p)
theorem Vh(a b:Int × Int)(w:World):(Op.equal 311 (ko a) (ko b)).run Tryz.prog w= .ok (decide (a=b)) w:=by
 refine aWa Tryz.underlying311 (by kernel_rfl) ?_
 obtain⟨k1,v1⟩:=a
 obtain⟨k2,v2⟩:=b
 simp[xg,Op.eqFields,part,run_equalIn_int (h:=Tryz.underlying2),run_equalIn_int (h:=Tryz.underlying3),Result.andThen]
 by_cases h0:k1=k2<;>by_cases h1:v1=v2<;>simp[*]
theorem RK:wS Tryz.prog 311 ko where
 wide:=⟨_,Tryz.underlying311⟩
 check:=λk em w=>by
  obtain⟨a,b⟩:=k
  have h1:(Instr.checkKey em 9999 3 (.int .i64 a)).run Tryz.prog w= .ok () w:=MapKept.run_checkKey (k:=.int .i64 a) Tryz.underlying3 (s_ .i64 |>.is a) em 9998
  have h2:(Instr.checkKey em 9999 2 (.int .i64 b)).run Tryz.prog w= .ok () w:=MapKept.run_checkKey (k:=.int .i64 b) Tryz.underlying2 (s_ .i64 |>.is b) em 9998
  show (Instr.checkKey em (9999+1) _ _).run Tryz.prog w=_
  unfold Instr.checkKey
  simp[ko,xg,run_underlying Tryz.underlying311,part,h1,h2,Result.andThen]
 eq:=Vh
 stays:=λk w=>by
  have:Instr.sameBits 10000 (ko k) (ko k)=true:=by simp[ko,xg,Instr.sameBits]
  simp[Instr.keyThatStays,this]
 inj:=λ{a b} h=>by
  obtain⟨a1,a2⟩:=a
  obtain⟨b1,b2⟩:=b
  simp[ko,xg]at h
  rw[h.1,h.2]
theorem a7g{W w:World}{l:List Chunk}{α:Type}{enc:α->List Value}{v:Value}{t:TypeId}{sz j:Nat}{k:IntKind}{xs:List α}{y:α}{K:World->Prop}(hS:SL W (.ob (a7 v t sz xs.length (xs.map enc).flatten)::l) w)(hn:∀x,(enc x).length=sz)
  (hj:j<xs.length) (h1:∀v∈enc y,v.oneCell'=true) (hK:∀w',SL W (.ob (a7 v t sz (xs.set j y).length ((xs.set j y).map enc).flatten)::l) w'->K w'):zh sz v (.int k (j:Int)) λq=>zl sz q (agg (enc y)) w K:=by
 rcases a7.open hS with ⟨_,h0,_⟩|⟨b,cap,rest,rfl,hc,hlen,jW,hS⟩
 ·omega
 have dZ:j*sz+sz<=xs.length*sz:=by
  have:(j+1)*sz<=xs.length*sz:=Nat.mul_le_mul_right _ hj
  rwa [Nat.add_mul,Nat.one_mul]at this
 refine zB hj ?_
 rw[Nat.zero_add]
 refine QB hS .hd (hn y) (by rw[List.length_append];omega) h1 λw' hS=>hK w' ?_
 have e:((xs.map enc).flatten++rest).take (j*sz)++enc y++((xs.map enc).flatten++rest).drop (j*sz+sz)=((xs.set j y).map enc).flatten++rest:=by
  rw[List.take_append_of_le_length (by omega),List.drop_append_of_le_length (by omega),od hn,show j*sz+sz=(j+1)*sz by rw[Nat.add_mul,Nat.one_mul],nA hn,List.set_eq_take_append_cons_drop,if_pos hj]
  simp
 rw[e]at hS
 have hl:(xs.set j y).length=xs.length:=List.length_set
 rw[hl]
 exact a7.mk hc (by rw[jF hn,hl]) jW hS
theorem Qp(sp:Nat)(ts:List (List Row))(H:aW)(v:Value)(t:Nat)(l:List Row)(ht:t<ts.length)(hv:dy H 2 v l.length (l.map dX).flatten)(hs:fZ l)(hl:l.length<=100000):
  SP 141 [dg sp,.int .i64 (t:Int),v] [.ob (eP sp ts),.mem H] (dj (.bool true) [.ob (eP sp (ts.set t l)),.mem H]):=by
 intro W F w hS;apply bFb;delta Io cF df dk;(try simp only[app]at hS)
 refine Cg (Za sp ts t) λw hS=>?_
 refine za (λ_=>?_) (λh=>by omega)
 obtain⟨pv,L,hL,hS⟩:=eP.iff.1 hS
 have OM:=tC hL
 obtain⟨b0,hb⟩:=AP hL ht
 refine Gn λw hS=>?_
 refine Cc (Yl H v l hv hl) ?_;clear hS
 rintro u post ⟨xb,rfl,rfl⟩ w hS
 try simp only[app]at hS
 rw[aF7 hs]at hS
 refine Gp ?_
 refine a7g (enc:=oW) (y:=(xb,l)) (SL.b6 hS (t:=jR pv L::.ob (zf eW L)::.ob (eW (xb,l))::.pt sp [pv] 165::.mem H::F) Xi) vz (by omega) (by simp[oW,Value.oneCell']) λw hS=>?_
 have hS:=zf.take (SL.b6 hS (t:=.ob (zf eW L)::.ob (eW (xb,l))::.pt sp [pv] 165::jR pv (L.set t (xb,l))::.mem H::F) Xi) hb
 have hS:=zf.put (SL.b6 hS (t:=.ob (eW (xb,l))::.ob (zf eW (L.eraseIdx t))::.pt sp [pv] 165::jR pv (L.set t (xb,l))::.mem H::F) Xi) (by omega)
 have hS:=eP.put (Sr hL t xb l) hS Xp
 refine Cg (Za sp (ts.set t l) t) λw hS=>?_
 rw[show decide (0<=(t:Int)/\(t:Int)<((ts.set t l).length:Int))=true from decide_eq_true (by rw[List.length_set];omega)]
 (exact dq hS)
theorem PA:∀{C:List Row},fZ C->∀(k:Int) (v:ByteArray),(f' C ⟨k,v⟩).length=C.length+if (fe C k).isSome=true then 0 else 1
 | [],_,k,v=>by simp[f',fe]
 | x::C,h,k,v=>by
  unfold fZ at h
  rw[List.pairwise_cons]at h
  unfold f'
  by_cases h1:x.key<k
  ·have hg:fe (x::C) k=fe C k:=by unfold fe;rw[List.find?_cons];simp[show ¬x.key=k by omega]
   rw[if_pos h1,List.length_cons,PA (C:=C) h.2 k v,List.length_cons,hg];omega
  ·rw[if_neg h1]
   by_cases h2:x.key=k
   ·have hg:(fe (x::C) k).isSome=true:=by unfold fe;rw[List.find?_cons];simp[h2]
    rw[if_pos h2,hg];simp
   ·have hg:fe (x::C) k=none:=by
     unfold fe
     have:(x::C).find? (λc=>decide (c.key=k))=none:=by
      rw[List.find?_eq_none]
      intro y hy
      rcases List.mem_cons.1 hy with rfl|hy
      ·simpa using h2
      ·have:=h.1 y hy;simp;omega
     rw[this];rfl
    rw[if_neg h2,hg];simp
theorem ML:∀(C:List Row) (k:Int),((iK C k).length:Int)=C.length-if (fe C k).isSome=true then 1 else 0
 | [],k=>by simp[iK,fe]
 | x::C,k=>by
  unfold iK
  by_cases h:x.key=k
  ·have hg:(fe (x::C) k).isSome=true:=by unfold fe;rw[List.find?_cons];simp[h]
   rw[if_pos h,hg];simp
  ·have hg:fe (x::C) k=fe C k:=by unfold fe;rw[List.find?_cons];simp[h]
   rw[if_neg h,hg,List.length_cons,List.length_cons]
   have:=ML C k
   omega
theorem aRz{C:List Row}(h:fZ C)(c:dW):((j1 C c).length:Int)=C.length+(if (fe C c.key).isSome=true then (if c.gone=true then -1 else 0) else (if c.gone=true then 0 else 1)):=by
 unfold j1
 cases c.gone with
 | true=>
  rw[if_pos rfl,ML]
  split<;>simp<;>omega
 | false=>
  rw[if_neg (by decide)]
  have:=PA h c.key c.val
  rw[this]
  split<;>simp
theorem aR0{C:List Row}(h:fZ C)(c:dW)(k:Int):(fe (j1 C c) k).isSome=if c.key=k then !c.gone else (fe C k).isSome:=by
 unfold j1
 cases hg:c.gone with
 | true=>
  rw[if_pos rfl,Ny h]
  split<;>rfl
 | false=>
  rw[if_neg (by decide),NA]
  split<;>rfl
def wT(ts T:List (List Row))(m:List ((Int × Int) × Bool)):Prop:=∀p:Int × Int,match gS m p with
 | none=>fe (iG T p.1) p.2=fe (iG ts p.1) p.2
 | some b=>(fe (iG T p.1) p.2).isSome=b
theorem awc{κ α:Type}[DecidableEq κ](m:List (κ × α))(k:κ)(v:α)(k':κ):gS (iZ m k v) k'=if k=k' then some v else gS m k':=by
 induction m with
 | nil=>simp[iZ,gS]
 | cons p m ih=>
  unfold iZ
  by_cases h:p.1=k
  ·rw[if_pos h]
   by_cases h1:k=k'
   ·simp[gS,h1]
   ·simp[gS,h1,show ¬p.1=k' by rw[h];exact h1]
  ·rw[if_neg h]
   by_cases h1:p.1=k'
   ·have:¬k=k':=λe=>h (by rw[h1,e])
    simp[gS,h1,this]
   ·simp only[gS,if_neg h1];exact ih
theorem a_f{T:List (List Row)}{c:dW}(hc:gd T.length c=true)(t:Int):iG (jf T c) t=if t=c.table then j1 (iG T c.table) c else iG T t:=by
 obtain⟨h0,h1⟩:=of_decide_eq_true hc
 unfold jf
 by_cases ht:0<=t/\t<(T.length:Int)
 ·obtain⟨n,rfl⟩:∃n:Nat,t=n:=⟨t.toNat,by omega⟩
  have hn:n<T.length:=by omega
  rw[nf _ n (by rw[List.length_set];exact hn),List.getElem_set]
  by_cases e:c.table.toNat=n
  ·rw[if_pos e,if_pos (by omega)]
  ·rw[if_neg e,if_neg (by omega),nf T n hn]
 ·rw[G9 (by rw[List.length_set];exact ht),if_neg (by omega),G9 ht]
theorem wT.step{ts T:List (List Row)}{m:List ((Int × Int) × Bool)}(h:wT ts T m)(hs:∀C∈T,fZ C){c:dW}(hc:gd T.length c=true):wT ts (jf T c) (iZ m (c.table,c.key) (!c.gone)):=by
 have O8:=hs _ (CU (of_decide_eq_true hc))
 rintro ⟨t,k⟩
 rw[awc]
 have hk:=h (t,k)
 simp only at hk ⊢
 rw[a_f hc]
 by_cases e:(c.table,c.key)=(t,k)
 ·rw[if_pos e]
  simp only[Prod.mk.injEq]at e
  rw[if_pos e.1.symm,aR0 O8,if_pos e.2]
 ·rw[if_neg e]
  simp only[Prod.mk.injEq,not_and]at e
  by_cases e1:t=c.table
  ·rw[if_pos e1]
   have e2:=e e1.symm
   subst e1
   have hg:fe (j1 (iG T c.table) c) k=fe (iG T c.table) k:=by
    unfold j1
    split
    ·rw[Ny O8,if_neg e2]
    ·rw[NA,if_neg e2]
   rw[hg];exact hk
  ·rw[if_neg e1];exact hk
def jD(T:List (List Row)):List Value:=T.map λC=>.int .i64 (C.length:Nat)
theorem UD(T:List (List Row)):(jD T).length=T.length:=by simp[jD]
theorem Mu{T:List (List Row)}{c:dW}{t:Nat}(ht:c.table=t)(h:t<T.length):jD (jf T c)=(jD T).set t (.int .i64 ((j1 T[t] c).length:Nat)):=by
 unfold jD jf
 rw[List.map_set,ht,Int.toNat_natCast,nf T t h]
theorem UE{T:List (List Row)}{c:dW}{t:Nat}(ht:c.table=t)(h:t<T.length)(hl:(j1 T[t] c).length=T[t].length):jD (jf T c)=jD T:=by
 rw[Mu ht h,hl]
 unfold jD
 rw[<- List.map_set (f:=λC:List Row=>Value.int .i64 (C.length:Nat)) (a:=T[t]),List.set_getElem_self]
theorem DQ{T:List (List Row)}{t:Nat}(h:t<T.length):(jD T)[t]?=some (.int .i64 (T[t].length:Nat)):=by simp[jD,h]
theorem y8{W w:World}{l:List Chunk}{v u:Value}{t:TypeId}{n j:Nat}{k:IntKind}{cells:List Value}{K:World->Prop}(hS:SL W (.ob (a7 v t 1 n cells)::l) w)(hj:j<n)(h1:u.oneCell'=true)
  (hK:∀w',SL W (.ob (a7 v t 1 n (cells.set j u))::l) w'->K w'):zh 1 v (.int k (j:Int)) λq=>fH q u w K:=by
 rcases a7.open hS with ⟨_,h0,_⟩|⟨b,cap,rest,rfl,hc,hlen,jW,hS⟩
 ·omega
 refine zB hj ?_
 rw[Nat.zero_add,Nat.mul_one]
 refine y2 hS .hd (List.getElem?_eq_getElem (by rw[List.length_append];omega)) h1 λw' hS=>hK w' ?_
 rw[List.set_append_left _ _ (by omega)]at hS
 exact a7.mk hc (by rw[List.length_set];exact hlen) jW hS
theorem MW(t k:Int)(g:Bool)(v:ByteArray):gi ⟨t,k,g,v⟩=[.int .i64 t,.int .i64 k,.bool g,.string v]:=rfl
theorem Qo(sp:Nat)(ts:List (List Row))(H:aW)(v:Value)(l:List dW)(hv:dy H 4 v l.length (l.map gi).flatten)(hl:l.length<=140737488351232)(hs:∀C∈ts,fZ C)(hn:∀C∈ts,C.length<=1000000)(hl6:l.length<=1000000)(Al:ts.length<=1000):
  SP 145 [dg sp,v] [.ob (eP sp ts),.mem H] (dj (.bool (lE ts l)) [.ob (eP sp ts),.mem H]):=by
 intro W F w hS;apply bFe;delta Ir aF bw a_ dc b7 ai dk c_;(try simp only[app]at hS)
 refine Cg (Yz sp ts H v l hv hl) λw hS=>?_
 cases ha:l.all (gd ts.length) with
 | false=>
  refine zw ?_
  rw[show lE ts l=false by unfold lE;rw[ha];rfl]
  (exact dq hS)
 | true=>
  refine zq ?_
  have hF:lE ts l=(eZ ts l).all λC=>decide (C.length<=1000):=by unfold lE;rw[ha];rfl
  have ha:=List.all_eq_true.1 ha
  obtain⟨pv,L,hL,hS⟩:=eP.iff.1 hS
  have EI:=tC hL
  refine Gp ?_
  refine zr hS Xh ?_
  refine AM hS (Nat.le_refl _) (by omega) (by omega) λnb w hS=>?_
  have hS:=a7.full (sz:=1) (n:=L.length) (by rw[ku];rfl) hS
  refine Gp ?_
  refine zr hS Xh ?_
  refine⟨λus w=>∃(i:Nat) (cells:List Value),us=[.int .i64 i]/\i<=L.length/\cells.length=L.length/\(∀j (h:j<ts.length),j<i->cells[j]?=some (.int .i64 (ts[j].length:Nat)))/\SL W (.ob (a7 (.slice (some ⟨nb,0,none⟩) L.length L.length) 3 1 L.length cells)::.pt sp [pv] 165::jR pv L::.ob (zf eW L)::.mem H::F) w,
   λus _=>match us with|[.int _ i]=>(L.length-i).toNat|_=>0,⟨0,db [.int .i64 0] L.length,rfl,by omega,by rw[ku];exact Nat.mul_one _,λj h hj=>by omega,aR hS⟩,?_⟩
  clear hS
  rintro S3 w ⟨i,cells,da,hi,gj,lH,hS⟩
  cases da
  refine bR (λh=>?_) (λh=>?_)
  ·have bW:i<ts.length:=by omega
   obtain⟨b0,hb⟩:=AP hL bW
   refine z6 hS Xh vz hb (by omega) ?_
   unfold oW
   refine Gm λb w hS=>?_
   have hS:=zf.take (SL.b6 hS (t:=.ob (zf eW L)::.ob (a7 (.slice (some ⟨nb,0,none⟩) L.length L.length) 3 1 L.length cells)::.pt sp [pv] 165::jR pv L::.mem H::F) Xi) hb
   refine Cc (QQ b0 ts[i]) ?_;clear hS
   rintro u post ⟨rfl,rfl⟩ w hS
   try simp only[app]at hS
   have hS:=zf.back hS hb
   refine y8 (SL.b6 hS (t:=.ob (a7 (.slice (some ⟨nb,0,none⟩) L.length L.length) 3 1 L.length cells)::.pt sp [pv] 165::jR pv L::.ob (zf eW L)::.mem H::F) Xi) (by omega) rfl λw hS=>?_
   refine Gp ?_
   refine⟨⟨i+1,_,rfl,by omega,by rw[List.length_set];exact gj,λj hj gZ=>?_,hS⟩,by dsimp only;omega⟩
   rw[List.getElem?_set]
   by_cases e:i=j
   ·subst e;rw[if_pos rfl,if_pos (by omega)]
   ·rw[if_neg e];exact lH j hj (by omega)
  ·obtain rfl:i=L.length:=by omega
   have ES:cells=jD ts:=by
    refine List.ext_getElem? λj=>?_
    rcases Nat.lt_or_ge j ts.length with hj|hj
    ·rw[lH j hj (by omega),DQ hj]
    ·rw[List.getElem?_eq_none (by omega),List.getElem?_eq_none (by rw[UD];omega)]
   subst ES
   clear lH gj
   have hS:=eP.put hL hS Xp
   clear hL
   refine zm hv ?_
   have hS:=hS.P1 (key:=ko) (val:=Value.bool)
   generalize w.heap.size=mb at *
   generalize w.alloc (.map #[] 0)=w at *
   rw[show jD ts=jD (eZ ts (l.take 0)) from rfl]at hS
   refine⟨λus w=>∃(i:Nat) (m:List ((Int × Int) × Bool)),us=[.int .i64 i]/\i<=l.length/\wT ts (eZ ts (l.take i)) m/\SL W (.ob (eP sp ts)::.ob (fC ko Value.bool mb m)::.ob (a7 (.slice (some ⟨nb,0,none⟩) L.length L.length) 3 1 L.length (jD (eZ ts (l.take i))))::.mem H::F) w,
    λus _=>match us with|[.int _ i]=>(l.length-i).toNat|_=>0,⟨0,[],rfl,by omega,λp=>rfl,aR hS⟩,?_⟩
   clear hS
   rintro v46 w ⟨i,m,da,hi,hM,hS⟩
   cases da
   refine bR (λh=>?_) (λh=>?_)
   ·have bW:i<l.length:=by omega
    have gK:eZ ts (l.take (i+1))=jf (eZ ts (l.take i)) l[i]:=by rw[List.take_succ_eq_append_getElem bW,DE]
    have kF:=ha _ (List.getElem_mem bW)
    have kU:=pK ts (l.take i)
    have pY:=Be (l:=l.take i) hs λc hc=>ha c (List.mem_of_mem_take hc)
    have nC:=vo 1000000 (l:=l.take i) hn λc hc=>ha c (List.mem_of_mem_take hc)
    have pr:(l.take i).length<=l.length:=by rw[List.length_take];omega
    generalize eZ ts (l.take i)=T at *
    refine zS hS Xh kh hv (x:=l[i]) (by simp[bW]) bW ?_
    generalize l[i]=c at *
    obtain⟨ct,ck,cg,cv⟩:=c
    obtain⟨h0,h1⟩:0<=ct/\ct<(ts.length:Int):=of_decide_eq_true kF
    obtain⟨t,rfl⟩:∃n:Nat,ct=n:=⟨ct.toNat,by omega⟩
    have ht:t<T.length:=by omega
    have jJ:t<ts.length:=by omega
    have Am:T[t]∈T:=List.getElem_mem ht
    have dZ:=nC _ Am
    have pX:=hM (t,ck)
    have my:=hM.step pY (c:=⟨t,ck,cg,cv⟩) (by rw[kU];exact kF)
    have sY:=aRz (pY _ Am) ⟨t,ck,cg,cv⟩
    simp only at pX my sY
    rw[nf T t ht,nf ts t jJ]at pX
    rw[<- gK]at my
    clear hM
    rw[MW]
    refine Gb λcb w hS=>?_
    refine Gb λpb w hS=>?_
    refine aW2 (key:=ko) (val:=Value.bool) (z:=.bool false) (k:=((t:Int),ck)) hS Xh RK Tryz.underlying309 (λw=>by kernel_rfl) ?_
    refine Gp ?_
    refine⟨λus w=>us=[.bool (fe T[t] ck).isSome]/\SL W (.pt pb [.int .i64 t,.int .i64 ck] 311::.pt cb [.int .i64 t,.int .i64 ck,.bool cg,.string cv] 82::.ob (eP sp ts)::.ob (fC ko Value.bool mb m)::.ob (a7 (.slice (some ⟨nb,0,none⟩) L.length L.length) 3 1 L.length (jD T))::.mem H::F) w,?_,?_⟩
    ·cases vV:gS m ((t:Int),ck) with
     | none=>
      rw[vV]at pX
      refine zO (zw ?_)
      have pX:fe T[t] ck=fe ts[t] ck:=pX
      obtain⟨pv,L2,hL,hS⟩:=eP.iff.1 (SL.b6 hS (t:=.ob (eP sp ts)::.pt pb [.int .i64 t,.int .i64 ck] 311::.pt cb [.int .i64 t,.int .i64 ck,.bool cg,.string cv] 82::.ob (fC ko Value.bool mb m)::.ob (a7 (.slice (some ⟨nb,0,none⟩) L.length L.length) 3 1 L.length (jD T))::.mem H::F) Xi)
      obtain⟨b0,hb⟩:=AP hL jJ
      have b72:=tC hL
      refine Gn λw hS=>?_
      refine zD hS Xh vz hb (by omega) (i:=0) rfl ?_
      refine Gp ?_
      have hS:=zf.take (SL.b6 hS (t:=.ob (zf eW L2)::.pt sp [pv] 165::jR pv L2::.pt pb [.int .i64 t,.int .i64 ck] 311::.pt cb [.int .i64 t,.int .i64 ck,.bool cg,.string cv] 82::.ob (fC ko Value.bool mb m)::.ob (a7 (.slice (some ⟨nb,0,none⟩) L.length L.length) 3 1 L.length (jD T))::.mem H::F) Xi) hb
      refine Cc (QP b0 ts[t] ck (hs _ (List.getElem_mem jJ)) (hn _ (List.getElem_mem jJ))) ?_;clear hS
      rintro u post ⟨rfl,rfl⟩ w hS
      try simp only[app]at hS
      have hS:=eP.put hL (zf.back hS hb) Xp
      unfold Nx
      refine Gp ?_
      exact⟨by rw[pX],aR hS⟩
     | some q=>
      rw[vV]at pX
      have pX:(fe T[t] ck).isSome=q:=pX
      refine zO (zq ?_)
      exact⟨by rw[pX];rfl,aR hS⟩
    clear hS
    rintro lu w ⟨da,hS⟩
    cases da
    refine Gp ?_
    refine Q6 (key:=ko) (val:=Value.bool) (k:=((t:Int),ck)) (v:=!cg) hS Xu RK Tryz.underlying309 λ_ w hS=>?_
    have ig:∀{w:World} {cells:List Value},cells=jD (eZ ts (l.take (i+1)))->SL W (.ob (a7 (.slice (some ⟨nb,0,none⟩) L.length L.length) 3 1 L.length cells)::.ob (eP sp ts)::.ob (fC ko Value.bool mb (iZ m ((t:Int),ck) (!cg)))::.mem H::F) w ->
      ∃(i':Nat) (m':List ((Int × Int) × Bool)),[Value.int .i64 ((i+1:Nat):Int)]=[.int .i64 i']/\i'<=l.length/\wT ts (eZ ts (l.take i')) m'/\SL W (.ob (eP sp ts)::.ob (fC ko Value.bool mb m')::.ob (a7 (.slice (some ⟨nb,0,none⟩) L.length L.length) 3 1 L.length (jD (eZ ts (l.take i'))))::.mem H::F) w:=λe hS=>by
     subst e
     exact⟨i+1,_,rfl,by omega,my,aR hS⟩
    have Oi:=DQ ht
    have pZ:=Mu (T:=T) (c:=⟨t,ck,cg,cv⟩) rfl ht
    have vX:=UE (T:=T) (c:=⟨t,ck,cg,cv⟩) rfl ht
    rw[<- gK]at pZ vX
    refine⟨λus w=>us=[.bool ((fe T[t] ck).isSome && cg)]/\SL W (.pt cb [.int .i64 t,.int .i64 ck,.bool cg,.string cv] 82::.ob (eP sp ts)::.ob (fC ko Value.bool mb (iZ m ((t:Int),ck) (!cg)))::.ob (a7 (.slice (some ⟨nb,0,none⟩) L.length L.length) 3 1 L.length (jD T))::.mem H::F) w,?_,?_⟩
    ·cases (fe T[t] ck).isSome with
     | false=>
      refine Gp ?_
      exact⟨rfl,aR hS⟩
     | true=>
      refine Gp ?_
      exact⟨by simp,aR hS⟩
    clear hS
    rintro v83 w ⟨da,hS⟩
    cases da
    cases hw:(fe T[t] ck).isSome<;>cases cg<;>rw[hw]at sY
    ·refine zq (zO (zw ?_))
     refine Gp ?_
     refine zw ?_
     refine Gp ?_
     refine z7 hS Xh (by omega) Oi ?_
     refine Gp ?_
     refine y8 (SL.b6 hS (t:=.ob (a7 (.slice (some ⟨nb,0,none⟩) L.length L.length) 3 1 L.length (jD T))::.ob (eP sp ts)::.ob (fC ko Value.bool mb (iZ m ((t:Int),ck) (!false)))::.mem H::F) Xi) (by omega) rfl λw hS=>?_
     refine Gp ?_
     exact⟨ig (by rw[pZ];congr 2;simp at sY;omega) hS,by dsimp only;omega⟩
    ·refine zq (zO (zw ?_))
     refine Gp ?_
     refine zq ?_
     refine Gp ?_
     exact⟨ig (vX (by simp at sY;omega)).symm (aR hS),by dsimp only;omega⟩
    ·refine zq (zO (zq ?_))
     refine Gp ?_
     exact⟨ig (vX (by simp at sY;omega)).symm (aR hS),by dsimp only;omega⟩
    ·refine zw ?_
     refine Gp ?_
     refine z7 hS Xh (by omega) Oi ?_
     refine Gp ?_
     refine y8 (SL.b6 hS (t:=.ob (a7 (.slice (some ⟨nb,0,none⟩) L.length L.length) 3 1 L.length (jD T))::.ob (eP sp ts)::.ob (fC ko Value.bool mb (iZ m ((t:Int),ck) (!true)))::.mem H::F) Xi) (by omega) rfl λw hS=>?_
     refine Gp ?_
     exact⟨ig (by rw[pZ];congr 2;simp at sY;omega) hS,by dsimp only;omega⟩
   ·obtain rfl:i=l.length:=by omega
    rw[List.take_length]at hS
    have kU:=pK ts l
    generalize eZ ts l=T at *
    refine Gp ?_
    refine⟨λus w=>∃j:Nat,us=[.int .i64 j]/\j<=T.length/\(∀k (h:k<T.length),k<j->T[k].length<=1000)/\SL W (.ob (eP sp ts)::.ob (a7 (.slice (some ⟨nb,0,none⟩) L.length L.length) 3 1 L.length (jD T))::.mem H::F) w,
     λus _=>match us with|[.int _ i]=>(T.length-i).toNat|_=>0,⟨0,rfl,by omega,λk h hk=>by omega,aR hS⟩,?_⟩
    clear hS
    rintro S1 w ⟨j,da,hj,dY,hS⟩
    cases da
    refine bR (λh=>?_) (λh=>?_)
    ·have fG:j<T.length:=by omega
     refine z7 hS Xh (by omega) (DQ fG) ?_
     refine bR (λh2=>?_) (λh2=>?_)
     ·rw[hF,show (T.all λC=>decide (C.length<=1000))=false from List.all_eq_false.2 ⟨_,List.getElem_mem fG,by simp;omega⟩]
      (exact dq hS)
     ·refine Gp ?_
      refine⟨⟨j+1,rfl,by omega,λk hk xY=>?_,hS⟩,by dsimp only;omega⟩
      by_cases e:k=j
      ·subst e;omega
      ·exact dY k hk (by omega)
    ·rw[hF,show (T.all λC=>decide (C.length<=1000))=true from List.all_eq_true.2 λC hC=>by
      obtain⟨k,hk,rfl⟩:=List.getElem_of_mem hC
      exact decide_eq_true (dY k hk (by omega))]
     (exact dq hS)
theorem qa(c:dW)(k:Int):SP 222 [agg (gi c),.int .i64 k] [] (dj (.bool (ib c k)) []):=by
 intro W F w hS;apply bI2;delta Jr aF a_ dc b7 ai;(try simp only[app]at hS)
 refine zK hS λb w hS=>?_
 unfold gi at hS
 have hF:∀{w:World},¬(0<=c.table/\c.table<k/\1<=c.key/\c.key<=1099511627776/\c.val.size<=32)->SL W (.pt b [.int .i64 c.table,.int .i64 c.key,.bool c.gone,.string c.val] 82::F) w ->
   ∃post,dj (.bool (ib c k)) [] (.bool false) post/\SL W (app post F) w:=λh hS=>⟨_,⟨by rw[show ib c k=false by unfold ib;rw[decide_eq_false_iff_not];exact λk=>h ⟨k.1,k.2.1,k.2.2.1,k.2.2.2.1,k.2.2.2.2.1⟩],rfl⟩,aR hS⟩
 refine Gp ?_
 refine za (λ_=>hF (by omega) hS) (λ_=>?_)
 refine Gp ?_
 refine za (λ_=>hF (by omega) hS) (λ_=>?_)
 refine Gp ?_
 refine za (λ_=>hF (by omega) hS) (λ_=>?_)
 refine Gp ?_
 refine za (λ_=>hF (by omega) hS) (λ_=>?_)
 (repeat (first|refine Gp ?_|refine Gw λw hS=>?_|refine za (λ_=>hF (by omega) hS) (λ_=>?_)|refine za (λ_=>?_) (λ_=>hF (by omega) hS)))
 have e:ib c k=decide (c.gone=true->c.val=emp):=by
  unfold ib
  rw[decide_eq_decide]
  exact⟨λh=>h.2.2.2.2.2,λh=>⟨by omega,by omega,by omega,by omega,by omega,h⟩⟩
 rw[e]
 refine zA (λh=>?_) (λh=>?_)
 ·rw[h,decide_eq_true (by simp)]
  (exact dq hS)
 ·refine Gp ?_
  rw[h]
  have e2:decide (true=true->c.val=emp)=decide (c.val={data:=#[]}):=by rw[decide_eq_decide];exact⟨λh=>h rfl,λh _=>h⟩
  rw[e2]
  (exact dq hS)
theorem Cu{t:cW}(h:¬(1<=t.aI/\t.aI<=1099511627776)):eH t=false:=by
 unfold eH;rw[decide_eq_false h];rfl
theorem wm{t:cW}(hk:t.kind=1)(h:¬(t.mark=0/\t.changes.length<=16/\t.signals.length<=2)):eH t=false:=by
 unfold eH;rw[if_pos hk,decide_eq_false h];simp
theorem P7{t:cW}{i:Nat}(hk:t.kind=1)(hi:i<t.changes.length)(h:ib t.changes[i] 8=false):eH t=false:=by
 cases hm:eH t with
 | false=>rfl
 | true=>
  rw[(kJ hm).2.2.2.2.2.1 _ (List.getElem_mem hi)]at h;cases h
theorem P8{t:cW}{i:Nat}(hk:t.kind=1)(hi:i<t.signals.length)(h:¬t.signals[i].size<=40):eH t=false:=by
 cases hm:eH t with
 | false=>rfl
 | true=>exact absurd ((kJ hm).2.2.2.2.2.2 _ (List.getElem_mem hi)) h
theorem P_{t:cW}(hl:1<=t.aI/\t.aI<=1099511627776)(hk:t.kind=1)(h:t.mark=0/\t.changes.length<=16/\t.signals.length<=2)(h1:∀j (hj:j<t.changes.length),ib t.changes[j] 8=true)(h2:∀j (hj:j<t.signals.length),t.signals[j].size<=40):eH t=true:=by
 refine ri.2 ⟨hl,.inl ⟨hk,h.1,h.2.1,h.2.2,λc hc=>?_,λs hs=>?_⟩⟩
 ·obtain⟨j,hj,rfl⟩:=List.getElem_of_mem hc;exact h1 j hj
 ·obtain⟨j,hj,rfl⟩:=List.getElem_of_mem hs;exact h2 j hj
theorem P9{t:cW}(hl:1<=t.aI/\t.aI<=1099511627776)(hk:t.kind=2\/t.kind=3):eH t=decide (1<=t.mark/\t.mark<=1099511627776/\t.changes.length=0/\t.signals.length=0):=by
 rw[Bool.eq_iff_iff,ri,decide_eq_true_eq]
 simp only[List.length_eq_zero_iff]
 constructor
 ·rintro ⟨_,h|h⟩
  ·omega
  ·exact h.2
 ·exact λh=>⟨hl,.inr ⟨hk,h⟩⟩
theorem P'{t:cW}(h:¬(1<=t.kind/\t.kind<=3)):eH t=false:=by
 cases hm:eH t with
 | false=>rfl
 | true=>exact absurd (kJ hm).2.1 h
abbrev kR(b:Nat)(x:jq)(t:cW):Chunk:=.pt b [.int .i64 t.aI,.int .i64 t.kind,x.cv,x.sv,.int .i64 t.mark] 39
theorem qb(H:aW)(x:jq)(t:cW)(hx:gO H x t)(hl:1<=t.aI/\t.aI<=1099511627776)(hk:t.kind=1):SP 144 [agg (eI x)] [.mem H] (dj (.bool (eH t)) [.mem H]):=by
 intro W F w hS;apply bFd;delta Iq aF a_ dc b7 ai c_;(try simp only[app]at hS)
 refine zK hS λxb w hS=>?_
 unfold eI at hS
 rw[hx.aI,hx.kind,hx.mark]at hS
 have hF:∀{w:World},eH t=false->SL W (kR xb x t::.mem H::F) w->∃post,dj (.bool (eH t)) [.mem H] (.bool false) post/\SL W (app post F) w:=λh hS=>⟨_,⟨by rw[h],rfl⟩,aR hS⟩
 refine Gp ?_
 refine za (λh=>hF (wm hk (by omega)) hS) (λh1=>?_)
 refine Gp ?_
 refine zm hx.cv ?_
 refine Gp ?_
 refine za (λh=>hF (wm hk (by omega)) hS) (λh2=>?_)
 refine Gp ?_
 refine zm hx.sv ?_
 refine Gp ?_
 refine za (λh=>hF (wm hk (by omega)) hS) (λh3=>?_)
 refine Gp ?_
 refine zm hx.cv ?_
 refine⟨λvs w=>∃i:Nat,vs=[.int .i64 i]/\i<=t.changes.length/\(∀j (hj:j<t.changes.length),j<i->ib t.changes[j] 8=true)/\SL W (kR xb x t::.mem H::F) w,
  λvs _=>match vs with|[.int _ i]=>(t.changes.length-i).toNat|_=>0,⟨0,rfl,by omega,λj hj h=>by omega,hS⟩,?_⟩
 clear hS
 rintro v3 w ⟨i,eY,hi,dY,hS⟩
 cases eY
 refine bR (λh=>?_) (λh=>?_)
 ·have bW:i<t.changes.length:=by omega
  refine zS hS Xh kh hx.cv (x:=t.changes[i]) (by simp[bW]) bW ?_
  refine Gm λb w hS=>?_
  refine Cg (qa t.changes[i] 8) λw hS=>?_
  refine zA (λh=>hF (P7 hk bW h) (aR hS)) (λh=>?_)
  refine Gp ?_
  refine⟨⟨i+1,rfl,by omega,λj hj gZ=>?_,aR hS⟩,by dsimp only;omega⟩
  by_cases e:j=i
  ·subst e;exact h
  ·exact dY j hj (by omega)
 ·have iW:i=t.changes.length:=by omega
  have eJ:∀j (hj:j<t.changes.length),ib t.changes[j] 8=true:=λj hj=>dY j hj (by omega)
  clear dY
  refine Gp ?_
  refine zm hx.sv ?_
  refine⟨λvs w=>∃i:Nat,vs=[.int .i64 i]/\i<=t.signals.length/\(∀j (hj:j<t.signals.length),j<i->t.signals[j].size<=40)/\SL W (kR xb x t::.mem H::F) w,
   λvs _=>match vs with|[.int _ i]=>(t.signals.length-i).toNat|_=>0,⟨0,rfl,by omega,λj hj h=>by omega,aR hS⟩,?_⟩
  clear hS
  rintro v5 w ⟨i,eY,hi,dY,hS⟩
  cases eY
  refine bR (λh=>?_) (λh=>?_)
  ·have bW:i<t.signals.length:=by omega
   refine yH hS Xh hx.sv bW (u:=.string t.signals[i]) (by simp[bW]) ?_
   refine Gp ?_
   refine za (λh=>hF (P8 hk bW (by omega)) (aR hS)) (λh=>?_)
   refine Gp ?_
   refine⟨⟨i+1,rfl,by omega,λj hj gZ=>?_,aR hS⟩,by dsimp only;omega⟩
   by_cases e:j=i
   ·subst e;omega
   ·exact dY j hj (by omega)
  ·rw[P_ hl hk (by omega) eJ λj hj=>dY j hj (by omega)]
   (exact dq hS)
theorem yq(H:aW)(x:jq)(t:cW)(hx:gO H x t):SP 61 [agg (eI x)] [.mem H] (dj (.bool (eH t)) [.mem H]):=by
 intro W F w hS;apply b54;delta K_ aF a_ b7 ai;(try simp only[app]at hS)
 refine zK hS λxb w hS=>?_
 unfold eI at hS
 rw[hx.aI,hx.kind,hx.mark]at hS
 have hF:∀{w:World},eH t=false->SL W (kR xb x t::.mem H::F) w->∃post,dj (.bool (eH t)) [.mem H] (.bool false) post/\SL W (app post F) w:=λh hS=>⟨_,⟨by rw[h],rfl⟩,aR hS⟩
 refine Gp ?_
 refine za (λh=>hF (Cu (by omega)) hS) (λh1=>?_)
 refine Gp ?_
 refine za (λh=>hF (Cu (by omega)) hS) (λh2=>?_)
 refine bR (λhk=>?_) (λhk=>?_)
 ·refine Gp ?_
  have ju:gO H ⟨t.aI,t.kind,x.cv,x.sv,t.mark⟩ t:=⟨rfl,rfl,rfl,hx.cv,hx.sv⟩
  refine Cg (qb H ⟨t.aI,t.kind,x.cv,x.sv,t.mark⟩ t ju (by omega) hk) λw hS=>?_
  (exact dq hS)
 ·refine⟨λvs w=>vs=[.bool (decide (t.kind=2\/t.kind=3))]/\SL W (kR xb x t::.mem H::F) w,?_,?_⟩
  ·refine Gp ?_
   refine za (λh=>⟨by rw[decide_eq_true (Or.inl h)],hS⟩) (λh=>?_)
   refine Gp ?_
   exact⟨by rw[show decide (t.kind=3)=decide (t.kind=2\/t.kind=3) from decide_eq_decide.2 ⟨Or.inr,λh'=>by omega⟩],hS⟩
  clear hS
  rintro AX w ⟨hv,hS⟩
  cases hv
  refine za (λkZ=>?_) (λkZ=>hF (P' (by omega)) hS)
  have hM:=P9 (t:=t) (by omega) kZ
  have uj:∀{w:World},¬(1<=t.mark/\t.mark<=1099511627776/\t.changes.length=0/\t.signals.length=0)->SL W (kR xb x t::.mem H::F) w->∃post,dj (.bool (eH t)) [.mem H] (.bool false) post/\SL W (app post F) w:=λh hS=>hF (by rw[hM,decide_eq_false h]) hS
  refine Gp ?_
  refine za (λh3=>?_) (λh3=>uj (by omega) hS)
  refine Gp ?_
  refine za (λh4=>?_) (λh4=>uj (by omega) hS)
  refine Gp ?_
  refine zm hx.cv ?_
  refine Gp ?_
  refine za (λh5=>?_) (λh5=>uj (by omega) hS)
  refine Gp ?_
  refine zm hx.sv ?_
  refine Gp ?_
  rw[hM,show decide (1<=t.mark/\t.mark<=1099511627776/\t.changes.length=0/\t.signals.length=0)=decide ((t.signals.length:Int)=0) from decide_eq_decide.2 ⟨λh=>by omega,λh=>by omega⟩]
  (exact dq hS)
theorem yX(H:aW)(x:jq)(t:cW)(hx:gO H x t):SP 89 [agg (eI x)] [.mem H] (dj (.bool (eH t)) [.mem H]):=by
 intro W F w hS;apply b6p;delta Lu aF a_ dc b7 ai;(try simp only[app]at hS)
 refine zK hS λxb w hS=>?_
 unfold eI at hS
 rw[hx.aI,hx.kind,hx.mark]at hS
 have hF:∀{w:World},eH t=false->SL W (kR xb x t::.mem H::F) w->∃post,dj (.bool (eH t)) [.mem H] (.bool false) post/\SL W (app post F) w:=λh hS=>⟨_,⟨by rw[h],rfl⟩,aR hS⟩
 refine Gp ?_
 refine za (λh=>hF (Cu (by omega)) hS) (λh1=>?_)
 refine Gp ?_
 refine za (λh=>hF (Cu (by omega)) hS) (λh2=>?_)
 refine bR (λhk=>?_) (λhk=>?_)
 ·refine Gp ?_
  refine za (λh=>hF (wm hk (by omega)) hS) (λh1=>?_)
  refine Gp ?_
  refine zm hx.cv ?_
  refine Gp ?_
  refine za (λh=>hF (wm hk (by omega)) hS) (λh2=>?_)
  refine Gp ?_
  refine zm hx.sv ?_
  refine Gp ?_
  refine za (λh=>hF (wm hk (by omega)) hS) (λh3=>?_)
  refine⟨λvs w=>∃i:Nat,vs=[.int .i64 i]/\i<=t.changes.length/\(∀j (hj:j<t.changes.length),j<i->ib t.changes[j] 8=true)/\SL W (kR xb x t::.mem H::F) w,
   λvs _=>match vs with|[.int _ i]=>(t.changes.length-i).toNat|_=>0,⟨0,rfl,by omega,λj hj h=>by omega,hS⟩,?_⟩
  clear hS
  rintro v3 w ⟨i,eY,hi,dY,hS⟩
  cases eY
  refine Gp ?_
  refine zm hx.cv ?_
  refine bR (λh=>?_) (λh=>?_)
  ·have bW:i<t.changes.length:=by omega
   refine Gp ?_
   refine zS hS Xh kh hx.cv (x:=t.changes[i]) (by simp[bW]) bW ?_
   refine Cg (qj t.changes[i] 8) λw hS=>?_
   refine zA (λh=>hF (P7 hk bW h) (aR hS)) (λh=>?_)
   refine Gp ?_
   refine⟨⟨i+1,rfl,by omega,λj hj gZ=>?_,aR hS⟩,by dsimp only;omega⟩
   by_cases e:j=i
   ·subst e;exact h
   ·exact dY j hj (by omega)
  ·have iW:i=t.changes.length:=by omega
   have eJ:∀j (hj:j<t.changes.length),ib t.changes[j] 8=true:=λj hj=>dY j hj (by omega)
   clear dY
   refine⟨λvs w=>∃i:Nat,vs=[.int .i64 i]/\i<=t.signals.length/\(∀j (hj:j<t.signals.length),j<i->t.signals[j].size<=40)/\SL W (kR xb x t::.mem H::F) w,
    λvs _=>match vs with|[.int _ i]=>(t.signals.length-i).toNat|_=>0,⟨0,rfl,by omega,λj hj h=>by omega,aR hS⟩,?_⟩
   clear hS
   rintro v5 w ⟨i,eY,hi,dY,hS⟩
   cases eY
   refine Gp ?_
   refine zm hx.sv ?_
   refine bR (λh=>?_) (λh=>?_)
   ·have bW:i<t.signals.length:=by omega
    refine Gp ?_
    refine yH hS Xh hx.sv bW (u:=.string t.signals[i]) (by simp[bW]) ?_
    refine Gp ?_
    refine za (λh=>hF (P8 hk bW (by omega)) (aR hS)) (λh=>?_)
    refine Gp ?_
    refine⟨⟨i+1,rfl,by omega,λj hj gZ=>?_,aR hS⟩,by dsimp only;omega⟩
    by_cases e:j=i
    ·subst e;omega
    ·exact dY j hj (by omega)
   ·rw[P_ (by omega) hk (by omega) eJ λj hj=>dY j hj (by omega)]
    (exact dq hS)
 ·refine⟨λvs w=>vs=[.bool (decide (t.kind=2\/t.kind=3))]/\SL W (kR xb x t::.mem H::F) w,?_,?_⟩
  ·refine Gp ?_
   refine za (λh=>⟨by rw[decide_eq_true (Or.inl h)],hS⟩) (λh=>?_)
   refine Gp ?_
   exact⟨by rw[show decide (t.kind=3)=decide (t.kind=2\/t.kind=3) from decide_eq_decide.2 ⟨Or.inr,λh'=>by omega⟩],hS⟩
  clear hS
  rintro AX w ⟨hv,hS⟩
  cases hv
  refine za (λkZ=>?_) (λkZ=>hF (P' (by omega)) hS)
  have hM:=P9 (t:=t) (by omega) kZ
  have uj:∀{w:World},¬(1<=t.mark/\t.mark<=1099511627776/\t.changes.length=0/\t.signals.length=0)->SL W (kR xb x t::.mem H::F) w->∃post,dj (.bool (eH t)) [.mem H] (.bool false) post/\SL W (app post F) w:=λh hS=>hF (by rw[hM,decide_eq_false h]) hS
  refine Gp ?_
  refine za (λh3=>?_) (λh3=>uj (by omega) hS)
  refine Gp ?_
  refine za (λh4=>?_) (λh4=>uj (by omega) hS)
  refine Gp ?_
  refine zm hx.cv ?_
  refine Gp ?_
  refine za (λh5=>?_) (λh5=>uj (by omega) hS)
  refine Gp ?_
  refine zm hx.sv ?_
  refine Gp ?_
  rw[hM,show decide (1<=t.mark/\t.mark<=1099511627776/\t.changes.length=0/\t.signals.length=0)=decide ((t.signals.length:Int)=0) from decide_eq_decide.2 ⟨λh=>by omega,λh=>by omega⟩]
  (exact dq hS)
section
variable (b:Nat) (x1 x2 x3:Int) (t:TypeId)
theorem X6:SP 225 [.slice (some ⟨b,0,none⟩) 3 3] [.pt b [.int .i64 x1,.int .i64 x2,.int .i64 x3] t] (λu post=>post=[jd u [iF x1,iF x2,iF x3]]):=Zu b [x1,x2,x3] t (by simp)
end
def sy(H:aW)(t:cW)(u:Value)(post:List Chunk):Prop:=match pR t with
 | .error e=>u= .tuple #[.slice none 0 0,.int .i64 e]/\post=[.mem H]
 | .ok b=>∃v,u= .tuple #[v,.int .i64 0]/\post=[.ob (a7 v 5 1 b.length (b.map cI)),.mem H]
def kS(t:cW)(i:Nat):List dH:=[iF t.aI,iF t.kind,iF t.mark,iF t.changes.length]++((t.changes.take i).map lZ).flatten
def mr(t:cW)(i:Nat):List dH:=kS t t.changes.length++[iF t.signals.length]++(t.signals.take i).map tF
theorem Nb{t:cW}{i:Nat}(h:i<t.changes.length):kS t (i+1)=kS t i++lZ t.changes[i]:=by
 unfold kS;rw[List.take_succ_eq_append_getElem h,List.map_append,List.flatten_append,List.map_singleton,List.flatten_singleton,List.append_assoc]
theorem Nf{t:cW}{i:Nat}(h:i<t.signals.length):mr t (i+1)=mr t i++[tF t.signals[i]]:=by
 unfold mr;rw[List.take_succ_eq_append_getElem h,List.map_append,List.map_singleton,<- List.append_assoc]
theorem Nc(t:cW):mr t t.signals.length=jt t:=by
 unfold mr kS jt;simp
theorem Ed(t:cW)(i:Nat):(kS t i).length<=4+4*i:=by
 unfold kS
 rw[List.length_append,Vy (n:=4) (λ_=>rfl),List.length_take]
 simp;omega
theorem Nd(t:cW)(i:Nat):(mr t i).length<=5+4*t.changes.length+i:=by
 have:=Ed t t.changes.length
 unfold mr
 rw[List.length_append,List.length_append,List.length_map,List.length_take]
 simp;omega
theorem qQ(H:aW)(x:jq)(t:cW)(hx:gO H x t):SP 146 [agg (eI x)] [.mem H] (sy H t):=by
 intro W F w hS;apply bFf;delta Is aF a_ cF dc ai c_ bF;(try simp only[app]at hS)
 refine zK hS λxb w hS=>?_
 refine Gp ?_
 refine Cg (yq H x t hx) λw hS=>?_
 refine zA (λh=>?_) (λhm=>?_)
 ·exact⟨[.mem H],by unfold sy pR;rw[if_neg (by rw[h];decide)];exact⟨rfl,rfl⟩,aR hS⟩
 have hb:=kJ hm
 unfold eI at hS
 rw[hx.aI,hx.kind,hx.mark]at hS
 refine Gp ?_
 refine zm hx.cv ?_
 refine Gm λb w hS=>?_
 refine Cc (X7 b t.aI t.kind t.mark t.changes.length 2) ?_;clear hS
 rintro u post rfl w hS
 (try simp only[app]at hS);refine Gp ?_
 refine zm hx.cv ?_
 have hS:SL W (jd u (kS t 0)::_) _:=hS
 refine⟨λvs w=>∃(i:Nat) (u:Value),vs=[u,.int .i64 i]/\i<=t.changes.length/\SL W (jd u (kS t i)::kR xb x t::.mem H::F) w,
  λvs _=>match vs with|[_,.int _ i]=>(t.changes.length-i).toNat|_=>0,⟨0,_,rfl,by omega,aR hS⟩,?_⟩
 clear hS
 rintro u v3 w ⟨i,_,eY,hi,hS⟩
 cases eY
 have pW:=Ed t i
 refine bR (λh=>?_) (λh=>?_)
 ·have bW:i<t.changes.length:=by omega
  have hs:=Nb bW
  refine zS hS Xh kh hx.cv (x:=t.changes[i]) (by simp[bW]) bW ?_
  generalize t.changes[i]=o at *
  obtain⟨ot,ok,og,ov⟩:=o
  refine Gm λb w hS=>?_
  unfold gi at hS
  refine Cg (QZ og) λw hS=>?_;refine Gm λb w hS=>?_
  refine Cc (X6 b ot ok (nt og) 2) ?_;clear hS
  rintro u2 post rfl w hS
  try simp only[app]at hS
  refine yB (L:=kS t i) hS Xr (nc hS Xh) (by simp;omega) λu3 w hS=>?_
  refine Gp ?_
  refine Cg (Z4 ov) λw hS=>?_;refine Gm λb w hS=>?_
  refine yB (M:=[tF ov]) hS Xr (AQ hS Xh) (by simp;omega) λu4 w hS=>?_
  refine Gp ?_
  refine⟨⟨i+1,_,rfl,by omega,?_⟩,by dsimp only;omega⟩
  rw[hs]
  simp only[List.append_assoc]at hS
  have hS:SL W (jd _ (kS t i++lZ ⟨ot,ok,og,ov⟩)::_) _:=hS
  exact aR hS
 ·have iW:i=t.changes.length:=by omega
  subst iW
  refine Gp ?_
  refine zm hx.sv ?_
  refine Gm λb w hS=>?_
  refine Cc (X5 b t.signals.length 2) ?_;clear hS
  rintro u2 post rfl w hS
  try simp only[app]at hS
  refine yB (L:=kS t t.changes.length) hS Xr (nc hS Xh) (by simp;omega) λu3 w hS=>?_
  refine Gp ?_
  refine zm hx.sv ?_
  refine⟨λvs w=>∃(i:Nat) (u:Value),vs=[u,.int .i64 i]/\i<=t.signals.length/\SL W (jd u (mr t i)::kR xb x t::.mem H::F) w,
   λvs _=>match vs with|[_,.int _ i]=>(t.signals.length-i).toNat|_=>0,⟨0,u3,rfl,by omega,?_⟩,?_⟩
  ·rw[show mr t 0=kS t t.changes.length++[iF t.signals.length] by unfold mr;simp]
   exact aR hS
  clear hS
  rintro u v3 w ⟨i,_,eY,hi,hS⟩
  cases eY
  have BG:=Nd t i
  refine bR (λh=>?_) (λh=>?_)
  ·have bW:i<t.signals.length:=by omega
   have hs:=Nf bW
   refine yH hS Xh hx.sv bW (u:=.string t.signals[i]) (by simp[bW]) ?_
   refine Cg (Z4 t.signals[i]) λw hS=>?_;refine Gm λb w hS=>?_
   refine yB (L:=mr t i) (M:=[tF t.signals[i]]) hS Xr (AQ hS Xh) (by simp;omega) λu3 w hS=>?_
   refine Gp ?_
   refine⟨⟨i+1,_,rfl,by omega,?_⟩,by dsimp only;omega⟩
   rw[hs]
   exact aR hS
  ·have iW:i=t.signals.length:=by omega
   subst iW
   rw[Nc]at hS BG
   refine Cc (ZG (jd u (jt t)) u (jt t) mI.own (by omega)) ?_;clear hS
   rintro r post hq w hS
   try simp only[app]at hS
   unfold nm at hq
   unfold sy pR
   rw[if_pos hm]
   cases he:lC (jt t) with
   | error e=>
    rw[he]at hq
    obtain⟨rfl,rfl⟩:=hq
    (try simp only[app]at hS);refine Gp ?_
    exact dq hS
   | ok bs=>
    rw[he]at hq
    obtain⟨v,rfl,rfl⟩:=hq
    (try simp only[app]at hS);refine Gp ?_
    exact⟨_,⟨v,rfl,rfl⟩,aR hS⟩
theorem q8(H:aW)(x:jq)(t:cW)(hx:gO H x t):SP 183 [agg (eI x)] [.mem H] (sy H t):=by
 intro W F w hS;apply bIa;delta I1 aF a_ cF dc ai c_ bF;(try simp only[app]at hS)
 refine zK hS λxb w hS=>?_
 refine Gp ?_
 refine Cg (yX H x t hx) λw hS=>?_
 refine zA (λh=>?_) (λhm=>?_)
 ·exact⟨[.mem H],by unfold sy pR;rw[if_neg (by rw[h];decide)];exact⟨rfl,rfl⟩,aR hS⟩
 have hb:=kJ hm
 unfold eI at hS
 rw[hx.aI,hx.kind,hx.mark]at hS
 refine Gn λw hS=>?_
 refine zm hx.cv ?_
 refine Cg (zL t.aI) λw hS=>?_
 refine Cg (zL t.kind) λw hS=>?_
 refine Cg (zL t.mark) λw hS=>?_
 refine Cg (zL t.changes.length) λw hS=>?_
 refine zy hS (Nk (iF t.aI) (iF t.kind) (iF t.mark) (iF t.changes.length)) λb w hS=>?_
 have hS:=a7.full (n:=4) (sz:=3) rfl hS
 have hS:SL W (jd _ (kS t 0)::_) _:=hS
 refine⟨λvs w=>∃(i:Nat) (u:Value),vs=[u,.int .i64 i]/\i<=t.changes.length/\SL W (jd u (kS t i)::kR xb x t::.mem H::F) w,
  λvs _=>match vs with|[_,.int _ i]=>(t.changes.length-i).toNat|_=>0,⟨0,_,rfl,by omega,aR hS⟩,?_⟩
 clear hS
 rintro u v3 w ⟨i,_,eY,hi,hS⟩
 cases eY
 have pW:=Ed t i
 refine Gp ?_
 refine zm hx.cv ?_
 refine bR (λh=>?_) (λh=>?_)
 ·have bW:i<t.changes.length:=by omega
  have hs:=Nb bW
  refine Gp ?_
  refine zS hS Xh kh hx.cv (x:=t.changes[i]) (by simp[bW]) bW ?_
  refine Cc (Q2 t.changes[i]) ?_;clear hS
  rintro u2 post rfl w hS
  try simp only[app]at hS
  refine yB (L:=kS t i) hS Xr (nc hS Xh) (by simp[lZ];omega) λu4 w hS=>?_
  refine Gp ?_
  refine⟨⟨i+1,_,rfl,by omega,?_⟩,by dsimp only;omega⟩
  rw[hs]
  exact aR hS
 ·have iW:i=t.changes.length:=by omega
  subst iW
  refine Gp ?_
  refine zm hx.sv ?_
  refine Cg (zL t.signals.length) λw hS=>?_;refine Gm λb w hS=>?_
  refine yB (L:=kS t t.changes.length) (M:=[iF t.signals.length]) hS Xr (AQ hS Xh) (by simp;omega) λu3 w hS=>?_
  refine⟨λvs w=>∃(i:Nat) (u:Value),vs=[u,.int .i64 i]/\i<=t.signals.length/\SL W (jd u (mr t i)::kR xb x t::.mem H::F) w,
   λvs _=>match vs with|[_,.int _ i]=>(t.signals.length-i).toNat|_=>0,⟨0,u3,rfl,by omega,?_⟩,?_⟩
  ·rw[show mr t 0=kS t t.changes.length++[iF t.signals.length] by unfold mr;simp]
   exact aR hS
  clear hS
  rintro u v3 w ⟨i,_,eY,hi,hS⟩
  cases eY
  have BG:=Nd t i
  refine Gp ?_
  refine zm hx.sv ?_
  refine bR (λh=>?_) (λh=>?_)
  ·have bW:i<t.signals.length:=by omega
   have hs:=Nf bW
   refine Gp ?_
   refine yH hS Xh hx.sv bW (u:=.string t.signals[i]) (by simp[bW]) ?_
   refine Cg (y9 t.signals[i]) λw hS=>?_;refine Gm λb w hS=>?_
   refine yB (L:=mr t i) (M:=[tF t.signals[i]]) hS Xr (AQ hS Xh) (by simp;omega) λu3 w hS=>?_
   refine Gp ?_
   refine⟨⟨i+1,_,rfl,by omega,?_⟩,by dsimp only;omega⟩
   rw[hs]
   exact aR hS
  ·have iW:i=t.signals.length:=by omega
   subst iW
   rw[Nc]at hS BG
   refine Cc (yO (jd u (jt t)) u (jt t) mI.own (by omega)) ?_;clear hS
   rintro r post hq w hS
   try simp only[app]at hS
   unfold nm at hq
   unfold sy pR
   rw[if_pos hm]
   cases he:lC (jt t) with
   | error e=>
    rw[he]at hq
    obtain⟨rfl,rfl⟩:=hq
    (try simp only[app]at hS);refine Gp ?_
    exact dq hS
   | ok bs=>
    rw[he]at hq
    obtain⟨v,rfl,rfl⟩:=hq
    (try simp only[app]at hS);refine Gp ?_
    exact⟨_,⟨v,rfl,rfl⟩,aR hS⟩
structure nj{α:Type}(one:cw->α × cw)(n:Nat)(r0:cw)(xs:List α)(k:Nat)(r:cw):Prop where
 eq:eS one n r0=(xs++(eS one k r).1,(eS one k r).2)
 le:xs.length+k<=n
theorem nj.start{α:Type}(one:cw->α × cw)(n:Nat)(r:cw):nj one n r [] n r:=⟨rfl,by simp⟩
theorem nj.step{α:Type}{one:cw->α × cw}{n:Nat}{r0:cw}{xs:List α}{k:Nat}{r:cw}(h:nj one n r0 xs (k+1) r):nj one n r0 (xs++[(one r).1]) k (one r).2:=
 ⟨by rw[h.eq];simp[eS],by have:=h.le;rw[List.length_append,List.length_singleton];omega⟩
theorem nj.stop{α:Type}{one:cw->α × cw}{n:Nat}{r0:cw}{xs:List α}{r:cw}(h:nj one n r0 xs 0 r):eS one n r0=(xs,r):=by
 rw[h.eq];simp[eS]
theorem YH(rp:Nat)(r:cw):SP 161 [.pointer (some ⟨rp,0,none⟩)] [.ob (fT rp r)] (dj (agg (gi (jC r).1)) [.ob (fT rp (jC r).2)]):=by
 intro W F w hS;apply bFs;delta IF ai c_;(try simp only[app]at hS)
 refine Gm λb w hS=>?_
 refine Cg (zV rp r 8) λw hS=>?_
 refine Cg (yD rp _) λw hS=>?_
 refine Cg (qN rp _) λw hS=>?_
 refine Cg (yV rp _) λw hS=>?_
 simp only[jC]
 exact dq hS
theorem mo{aI kind mark:Int}{cv sv:Value}(h1:cv.oneCell'=true)(h2:sv.oneCell'=true):∀v∈eI ⟨aI,kind,cv,sv,mark⟩,v.oneCell'=true:=by
 intro v hv
 simp only[eI,List.mem_cons,List.not_mem_nil,or_false]at hv
 rcases hv with rfl|rfl|rfl|rfl|rfl
 ·rfl
 ·rfl
 ·exact h1
 ·exact h2
 ·rfl
def ry:jq:=⟨0,0,.slice none 0 0,.slice none 0 0,0⟩
abbrev sH(b:Nat):Chunk:=.pt b [.int .i64 0,.int .i64 0,.slice none 0 0,.slice none 0 0,.int .i64 0] 39
def nS(X:Chunk)(H:aW)(b:List UInt8)(u:Value)(post:List Chunk):Prop:=match iU b with
 | .error e=>e≠0/\∃H',H.le H'/\u= .tuple #[agg (eI ry),.int .i64 e]/\post=[X,.mem H']
 | .ok t=>∃x H',H.le H'/\u= .tuple #[agg (eI x),.int .i64 0]/\gO H' x t/\post=[X,.mem H']
theorem MF{b:List UInt8}{e:Int}(h:h_ b= .error e):iU b= .error e:=by unfold iU;rw[h]
theorem UY{b:List UInt8}{l:List dH}(h:h_ b= .ok l)(h2:¬((jN ⟨l,false⟩).2.bad=false/\(jN ⟨l,false⟩).2.l=[]/\eH (jN ⟨l,false⟩).1=true)):iU b= .error 3:=by
 unfold iU sN;rw[h];simp only;rw[if_neg h2]
theorem UX{b:List UInt8}{l:List dH}(h:h_ b= .ok l)(h2:(jN ⟨l,false⟩).2.bad=false/\(jN ⟨l,false⟩).2.l=[]/\eH (jN ⟨l,false⟩).1=true):iU b= .ok (jN ⟨l,false⟩).1:=by
 unfold iU sN;rw[h];simp only;rw[if_pos h2]
abbrev pE(v:Value)(l:List dW):Chunk:=.ob (a7 v 82 4 l.length (l.map gi).flatten)
abbrev pI(v:Value)(l:List ByteArray):Chunk:=.ob (a7 v 9 1 l.length (l.map λs=>[Value.string s]).flatten)
theorem SG(l:List ByteArray):(l.map λs=>[Value.string s]).flatten=l.map Value.string:=by
 induction l with
 | nil=>rfl
 | cons a l ih=>simp[ih]
structure Dq(l:List dH)(aI kind mark:Int)(r3:cw):Prop where
 aI:(jN ⟨l,false⟩).1.aI=aI
 kind:(jN ⟨l,false⟩).1.kind=kind
 mark:(jN ⟨l,false⟩).1.mark=mark
 ch:(jN ⟨l,false⟩).1.changes=(eS jC (ed 16 r3).1.toNat (ed 16 r3).2).1
 sg:∀r4,(eS jC (ed 16 r3).1.toNat (ed 16 r3).2).2=r4->(jN ⟨l,false⟩).1.signals=(eS eQ (ed 2 r4).1.toNat (ed 2 r4).2).1/\(jN ⟨l,false⟩).2=(eS eQ (ed 2 r4).1.toNat (ed 2 r4).2).2
theorem Dq.is(l:List dH):Dq l (fR ⟨l,false⟩).1 (ed 3 (fR ⟨l,false⟩).2).1 (fR (ed 3 (fR ⟨l,false⟩).2).2).1 (fR (ed 3 (fR ⟨l,false⟩).2).2).2:=⟨rfl,rfl,rfl,rfl,λr4 h=>by subst h;exact⟨rfl,rfl⟩⟩
theorem qP(X:Chunk)(H:aW)(v:Value)(bs:List UInt8)(hv:dN X v bs):SP 72 [v] [X,.mem H] (nS X H bs):=by
 intro W F w hS;apply b6d;delta Li aF cF dc ai c_ bF;(try simp only[app]at hS)
 refine Gb λzb w hS=>?_
 refine Cc (yT X v bs hv) ?_;clear hS
 rintro r post hq w hS
 unfold nk at hq
 cases hd:h_ bs with
 | error e=>
  rw[hd]at hq
  obtain⟨rfl,rfl⟩:=hq
  have he:=Bl hd
  (try simp only[app]at hS);refine Gp ?_
  refine za (λ_=>?_) (λh=>absurd he h)
  refine Gn λw hS=>?_
  exact⟨[X,.mem H],by unfold nS;rw[MF hd];exact⟨he,H,aW.le_refl H,rfl,rfl⟩,aR hS⟩
 | ok l=>
  rw[hd]at hq
  obtain⟨lv,rfl,rfl⟩:=hq
  (try simp only[app]at hS);refine Gp ?_
  refine za (λh=>absurd rfl h) (λ_=>?_)
  refine Cc (Z3 lv l) ?_;clear hS
  rintro _ post ⟨rp,rfl,rfl⟩ w hS
  try simp only[app]at hS
  refine Cc (yD rp ⟨l,false⟩) ?_;clear hS
  rintro v1 post ⟨rfl,rfl⟩ w hS
  try simp only[app]at hS
  refine Cc (zV rp _ 3) ?_;clear hS
  rintro v1 post ⟨rfl,rfl⟩ w hS
  try simp only[app]at hS
  refine Cc (yD rp _) ?_;clear hS
  rintro v1 post ⟨rfl,rfl⟩ w hS
  try simp only[app]at hS
  have hI:=Dq.is l
  generalize (fR (ed 3 (fR ⟨l,false⟩).2).2).1=mark at *
  generalize (fR (ed 3 (fR ⟨l,false⟩).2).2).2=r3 at *
  generalize (ed 3 (fR ⟨l,false⟩).2).1=kind at *
  generalize (fR ⟨l,false⟩).1=aI at *
  have z':=CQ (m:=16) (by decide) r3
  refine Gp ?_
  refine Gb λxb w hS=>?_
  have hS:SL W (pE (.slice none 0 0) []::_) _:=a7.nil hS
  have hS:SL W (pI (.slice none 0 0) []::_) _:=a7.nil hS
  refine Cc (zV rp r3 16) ?_;clear hS
  rintro v1 post ⟨rfl,rfl⟩ w hS
  try simp only[app]at hS
  have jV:=hI.ch
  have q_:=hI.sg
  generalize (ed 16 r3).1=n1 at *
  generalize (ed 16 r3).2=r2 at *
  refine⟨λus w=>∃(k:Nat) (gH:List dW) (r:cw) (cv:Value),us=[.int .i64 k]/\nj jC n1.toNat r2 gH k r/\SL W (pE cv gH::.ob (fT rp r)::pI (.slice none 0 0) []::.pt xb [.int .i64 aI,.int .i64 kind,cv,.slice none 0 0,.int .i64 mark] 39::sH zb::X::.mem H::F) w,
   λus _=>match us with|[.int _ i]=>i.toNat|_=>0,⟨n1.toNat,[],r2,.slice none 0 0,by rw[show ((n1.toNat:Nat):Int)=n1 by omega],nj.start _ _ _,aR hS⟩,?_⟩
  clear hS
  rintro v8 w ⟨k,gH,r,cv,da,hM,hS⟩
  cases da
  have hle:=hM.le
  refine bR (λh=>?_) (λh=>?_)
  ·obtain⟨k,rfl⟩:∃j,k=j+1:=⟨k-1,by omega⟩
   have hM:=hM.step
   refine Gn λw hS=>?_
   refine Cg (YH rp r) λw hS=>?_;refine Gm λb w hS=>?_
   refine yu (n:=gH.length) (xs:=gH) (y:=(jC r).1) (enc:=gi) hS Xr Xh kh (λx=>MX x) rfl (by omega) (by omega) λu w hS=>?_
   have h1:=a7.one hS
   refine Gn λw hS=>?_
   refine⟨⟨k,_,_,u,by rw[show ((k+1:Nat):Int)-1=(k:Int) by omega],hM,?_⟩,by dsimp only;omega⟩
   have hS:=hS.oJ (x:=(jC r).1)
   exact aR hS
  ·obtain rfl:k=0:=by omega
   rw[hM.stop]at jV q_
   obtain⟨vY,dE⟩:=q_ r rfl
   have Fl:=CQ (m:=2) (by decide) r
   refine Cc (zV rp r 2) ?_;clear hS
   rintro v1 post ⟨rfl,rfl⟩ w hS
   try simp only[app]at hS
   generalize (ed 2 r).1=n2 at *
   generalize (ed 2 r).2=r5 at *
   refine⟨λus w=>∃(k:Nat) (nP:List ByteArray) (r:cw) (sv:Value),us=[.int .i64 k]/\nj eQ n2.toNat r5 nP k r/\SL W (pI sv nP::.ob (fT rp r)::pE cv gH::.pt xb [.int .i64 aI,.int .i64 kind,cv,sv,.int .i64 mark] 39::sH zb::X::.mem H::F) w,
    λus _=>match us with|[.int _ i]=>i.toNat|_=>0,⟨n2.toNat,[],r5,.slice none 0 0,by rw[show ((n2.toNat:Nat):Int)=n2 by omega],nj.start _ _ _,aR hS⟩,?_⟩
   clear hS
   rintro v8 w ⟨k,nP,r,sv,da,my,hS⟩
   cases da
   have hle:=my.le
   refine bR (λh=>?_) (λh=>?_)
   ·obtain⟨k,rfl⟩:∃j,k=j+1:=⟨k-1,by omega⟩
    have my:=my.step
    refine Gn λw hS=>?_
    refine Cg (yV rp r) λw hS=>?_;refine Gm λb w hS=>?_
    refine yu (n:=nP.length) (xs:=nP) (y:=(eQ r).1) (enc:=λs=>[Value.string s]) hS Xr Xh (λ_=>rfl) (by simp[Value.oneCell']) rfl (by omega) (by omega) λu w hS=>?_
    have h1:=a7.one hS
    refine Gn λw hS=>?_
    refine⟨⟨k,_,_,u,by rw[show ((k+1:Nat):Int)-1=(k:Int) by omega],my,?_⟩,by dsimp only;omega⟩
    have hS:=hS.oJ (x:=(eQ r).1)
    exact aR hS
   ·obtain rfl:k=0:=by omega
    rw[my.stop]at vY dE
    have j8:=hI.aI
    have E9:=hI.kind
    have Fg:=hI.mark
    have jV:(jN ⟨l,false⟩).1.changes=gH:=jV
    have vY:(jN ⟨l,false⟩).1.signals=nP:=vY
    have dE:(jN ⟨l,false⟩).2=r:=dE
    generalize ht:(jN ⟨l,false⟩).1=t at *
    generalize hr:(jN ⟨l,false⟩).2=r' at *
    subst dE jV vY
    obtain⟨H1,d_,hO,hS⟩:=a7.freeze (SL.b6 hS (t:=.mem H::pE cv t.changes::pI sv t.signals::.ob (fT rp r')::.pt xb [.int .i64 aI,.int .i64 kind,cv,sv,.int .i64 mark] 39::sH zb::X::F) Xi)
    obtain⟨H2,eh,hN,hS⟩:=a7.freeze hS
    rw[SG]at hN
    have hx:gO H2 ⟨aI,kind,cv,sv,mark⟩ t:=⟨j8.symm,E9.symm,Fg.symm,hO.mono eh,hN⟩
    have gv:=aW.le_trans d_ eh
    have fW:=hO.one
    have jl:=hN.one
    refine Cg (Z1 rp r') λw hS=>?_
    have eN:¬(r'.bad=false/\r'.l=[]/\eH t=true)->∀{w:World},SL W (X::.mem H2::F) w->∃post,nS X H bs (.tuple #[agg (eI ry),.int .i64 3]) post/\SL W (app post F) w:=λh w hS=>⟨[X,.mem H2],by unfold nS;rw[UY hd (by rw[ht,hr];exact h)];exact⟨by decide,H2,gv,rfl,rfl⟩,hS⟩
    refine zA (λhb=>?_) (λhb=>?_)
    ·have hb:=of_decide_eq_false hb
     refine Gn λw hS=>?_
     exact eN (λh=>hb ⟨h.1,h.2.1⟩) (aR hS)
    ·have hb:=of_decide_eq_true hb
     refine Gp ?_
     refine Cg (yq H2 ⟨aI,kind,cv,sv,mark⟩ t hx) λw hS=>?_
     refine zA (λhm=>?_) (λhm=>?_)
     ·refine Gn λw hS=>?_
      exact eN (λh=>by rw[h.2.2]at hm;cases hm) (aR hS)
     ·refine Gp ?_
      refine zz (vs:=eI ⟨aI,kind,cv,sv,mark⟩) hS Xu rfl rfl (mo fW jl) λw hS=>?_
      refine Gp ?_
      exact⟨[X,.mem H2],by unfold nS;rw[UX hd (by rw[ht,hr];exact⟨hb.1,hb.2,hm⟩),ht];exact⟨⟨aI,kind,cv,sv,mark⟩,H2,gv,rfl,hx,rfl⟩,aR hS⟩
theorem Yg(H:aW)(v:Value)(C:List Row)(hC:dy H 2 v C.length (C.map dX).flatten)(hn:C.length<=140737488351232):SP 288 [v] [.mem H] (dj (.bool (jZ C)) [.mem H]):=by
 intro W F w hS;apply bWg;delta Kf aF a_ b7 ai c_;(try simp only[app]at hS)
 refine zm hC ?_
 refine⟨λus w=>∃(i:Nat) (k:Int),us=[.int .i64 k,.int .i64 i]/\i<=C.length/\nO 0 C=nO k (C.drop i)/\SL W (.mem H::F) w,λus _=>match us with|[_,.int _ i]=>(C.length-i).toNat|_=>0,⟨0,0,rfl,by omega,rfl,hS⟩,?_⟩
 clear hS
 rintro v3 v8 w ⟨i,k,da,hi,hr,hS⟩
 cases da
 refine bR (λh=>?_) (λh=>?_)
 ·have bW:i<C.length:=by omega
  rw[List.drop_eq_getElem_cons bW,nO]at hr
  refine zS hS Xh fQ hC (x:=C[i]) (by simp[bW]) bW ?_
  generalize C[i]=r at *
  obtain⟨rk,rv⟩:=r
  have hF:∀{w:World} {b:Nat},¬(k<rk/\rk<=1099511627776/\rv.size<=32)->SL W (.pt b [.int .i64 rk,.string rv] 52::.mem H::F) w->∃post,dj (.bool (jZ C)) [.mem H] (.bool false) post/\SL W (app post F) w:=λeN hS=>
   ⟨_,⟨by unfold jZ;rw[hr,decide_eq_false eN];rfl,rfl⟩,aR hS⟩
  rw[Ea]
  refine Gm λb w hS=>?_
  refine za (λh1=>hF (by omega) hS) (λh1=>?_)
  refine Gp ?_
  refine za (λh2=>hF (by omega) hS) (λh2=>?_)
  refine Gp ?_
  refine za (λh3=>hF (by omega) hS) (λh3=>?_)
  refine Gp ?_
  refine⟨⟨i+1,rk,rfl,by omega,?_,aR hS⟩,by dsimp only;omega⟩
  rw[hr,decide_eq_true (show k<rk/\rk<=1099511627776/\rv.size<=32 by omega)];rfl
 ·have iW:i=C.length:=by omega
  subst iW
  rw[List.drop_length]at hr
  refine zm hC ?_
  refine Gp ?_
  have e:jZ C=decide ((C.length:Int)<=1000):=by
   unfold jZ;rw[hr]
   show (true && _)=_
   rw[Bool.true_and,decide_eq_decide];omega
  rw[e]
  (exact dq hS)
def nU(H:aW)(v:Value)(ts:List (List Row)):Prop:=∃vs,dy H 1 v ts.length vs/\jo H vs ts
theorem nU.mono{H H':aW}(hh:H.le H'){v:Value}{ts:List (List Row)}(h:nU H v ts):nU H' v ts:=by
 obtain⟨vs,h1,h2⟩:=h
 exact⟨vs,h1.mono hh,h2.mono hh⟩
theorem yo{H:aW}{v:Value}{ts:List (List Row)}{K:Value->Prop}(h:nU H v ts)(k:K (.int .i64 ts.length)):zd v K:=by
 obtain⟨vs,h1,_⟩:=h
 exact zm h1 k
theorem YN{W w:World}{l:List Chunk}{H:aW}{v:Value}{ts:List (List Row)}{j:Nat}{k:IntKind}{K:Value->Prop}(hS:SL W l w)(hm:Has (.mem H) l)(h:nU H v ts)(hj:j<ts.length)
  (hK:∀u,dy H 2 u ts[j].length (ts[j].map dX).flatten->K u):zh 1 v (.int k (j:Int)) λp=>cR p w K:=by
 obtain⟨vs,h1,h2⟩:=h
 have hl:=h2.1
 have hu:vs[j]?=some (vs[j]'(by omega)):=List.getElem?_eq_getElem (by omega)
 exact yH hS hm h1 hj hu (hK _ (h2.2 j _ _ hu (List.getElem?_eq_getElem hj)))
theorem YI(H:aW)(v:Value)(aI:Int)(ts:List (List Row))(hv:nU H v ts)(hn:ts.length<=140737488351232)(hc:∀C∈ts,C.length<=140737488351232):SP 230 [.int .i64 aI,v] [.mem H] (dj (.bool (g8 aI ts)) [.mem H]):=by
 intro W F w hS;apply bRb;delta JA aF dc b7 ai;(try simp only[app]at hS)
 have hF:∀{w:World},¬(0<=aI/\aI<=1099511627776/\1<=ts.length/\ts.length<=8)->SL W (.mem H::F) w->∃post,dj (.bool (g8 aI ts)) [.mem H] (.bool false) post/\SL W (app post F) w:=λeN hS=>⟨_,⟨by unfold g8;rw[decide_eq_false eN];rfl,rfl⟩,hS⟩
 refine Gp ?_
 refine za (λh=>hF (by omega) hS) (λh1=>?_)
 refine Gp ?_
 refine za (λh=>hF (by omega) hS) (λh2=>?_)
 refine yo hv ?_
 refine Gp ?_
 refine za (λh=>hF (by omega) hS) (λh3=>?_)
 refine yo hv ?_
 refine Gp ?_
 refine za (λh=>hF (by omega) hS) (λh4=>?_)
 refine yo hv ?_
 have hM:g8 aI ts=ts.all jZ:=by unfold g8;rw[decide_eq_true (show 0<=aI/\aI<=1099511627776/\1<=ts.length/\ts.length<=8 by omega)];rfl
 refine⟨λus w=>∃i:Nat,us=[.int .i64 i]/\i<=ts.length/\(∀j (h:j<ts.length),j<i->jZ ts[j]=true)/\SL W (.mem H::F) w,λus _=>match us with|[.int _ i]=>(ts.length-i).toNat|_=>0,⟨0,rfl,by omega,λj h hj=>by omega,hS⟩,?_⟩
 clear hS
 rintro v25 w ⟨i,da,hi,dY,hS⟩
 cases da
 refine bR (λh=>?_) (λh=>?_)
 ·have bW:i<ts.length:=by omega
  refine YN hS Xh hv bW λu hu=>?_
  refine Cg (Yg H u ts[i] hu (hc _ (List.getElem_mem bW))) λw hS=>?_
  refine zA (λhb=>?_) (λhb=>?_)
  ·refine⟨_,⟨?_,rfl⟩,hS⟩
   rw[hM,show ts.all jZ=false from List.all_eq_false.2 ⟨_,List.getElem_mem bW,by rw[hb];decide⟩]
  ·refine Gp ?_
   refine⟨⟨i+1,rfl,by omega,λj hj gZ=>?_,hS⟩,by dsimp only;omega⟩
   by_cases e:j=i
   ·subst e;exact hb
   ·exact dY j hj (by omega)
 ·refine⟨_,⟨?_,rfl⟩,hS⟩
  rw[hM,show ts.all jZ=true from List.all_eq_true.2 λC hC=>by
   obtain⟨j,hj,rfl⟩:=List.getElem_of_mem hC
   exact dY j hj (by omega)]
def oX(aI:Int)(ts:List (List Row))(i:Nat):List dH:=[iF aI,iF ts.length]++((ts.take i).map mv).flatten
def oa(aI:Int)(ts:List (List Row))(i:Nat)(C:List Row)(j:Nat):List dH:=oX aI ts i++(iF C.length::((C.take j).map pT).flatten)
theorem Vl{aI:Int}{ts:List (List Row)}{i:Nat}(h:i<ts.length):oX aI ts (i+1)=oa aI ts i ts[i] ts[i].length:=by
 unfold oX oa oX mv
 rw[List.take_succ_eq_append_getElem h,List.map_append,List.flatten_append,List.map_singleton,List.flatten_singleton,List.take_length,List.append_assoc]
theorem Vn{aI:Int}{ts:List (List Row)}{i:Nat}{C:List Row}{j:Nat}(h:j<C.length):oa aI ts i C (j+1)=oa aI ts i C j++[iF C[j].key]++[tF C[j].val]:=by
 unfold oa
 rw[List.take_succ_eq_append_getElem h,List.map_append,List.flatten_append,List.map_singleton,List.flatten_singleton]
 simp[pT]
theorem Vk(aI:Int)(ts:List (List Row)):oX aI ts ts.length=lD aI ts:=by unfold oX lD;rw[List.take_length]
theorem Na{aI:Int}{ts:List (List Row)}(h:∀C∈ts,C.length<=1000)(i:Nat):(oX aI ts i).length<=2+ts.length*2001:=by
 have k:=ue (f:=mv) (k:=2001) (ts.take i) λC hC=>by rw[Ng];have:=h C (List.mem_of_mem_take hC);omega
 have:(ts.take i).length*2001<=ts.length*2001:=Nat.mul_le_mul_right _ (by rw[List.length_take];omega)
 unfold oX
 rw[List.length_append]
 simp only[List.length_cons,List.length_nil]
 omega
theorem Vm{aI:Int}{ts:List (List Row)}(h:∀C∈ts,C.length<=1000)(i:Nat){C:List Row}(hC:C.length<=1000)(j:Nat):(oa aI ts i C j).length<=2003+ts.length*2001:=by
 have h1:=Na (aI:=aI) h i
 unfold oa
 rw[List.length_append,List.length_cons,By (f:=pT) (k:=2) (λ_=>rfl),List.length_take]
 omega
def C9(H:aW)(aI:Int)(ts:List (List Row))(u:Value)(post:List Chunk):Prop:=match D_ aI ts with
 | .error e=>u= .tuple #[.slice none 0 0,.int .i64 e]/\post=[.mem H]
 | .ok b=>∃v,u= .tuple #[v,.int .i64 0]/\post=[.ob (a7 v 5 1 b.length (b.map cI)),.mem H]
theorem a_g(r:cw):lr r=eE oH (ed 1000 r).1.toNat (ed 1000 r).2:=rfl
theorem qO(rp:Nat)(r:cw):SP 282 [.pointer (some ⟨rp,0,none⟩)] [.ob (fT rp r)] (λv post=>(lr r).1.length<=1000/\post=[fO v (lr r).1,.ob (fT rp (lr r).2)]):=by
 intro W F w hS;apply bWa;delta J_ aF ai c_ bF;(try simp only[app]at hS)
 rw[a_g]
 have z':=CQ (m:=1000) (by decide) r
 refine Cc (zV rp r 1000) ?_;clear hS
 rintro v1 post ⟨rfl,rfl⟩ w hS
 try simp only[app]at hS
 generalize (ed 1000 r).1=n1 at *
 generalize (ed 1000 r).2=r2 at *
 have hS:SL W (fO (.slice none 0 0) []::_) _:=a7.nil hS
 refine⟨λus w=>∃(k:Nat) (rs:List Row) (r:cw) (rv:Value),us=[rv,.int .i64 k]/\kf oH n1.toNat r2 rs k r/\SL W (fO rv rs::.ob (fT rp r)::F) w,
  λus _=>match us with|[_,.int _ i]=>i.toNat|_=>0,⟨n1.toNat,[],r2,.slice none 0 0,by rw[show ((n1.toNat:Nat):Int)=n1 by omega],kf.start _ _ _,aR hS⟩,?_⟩
 clear hS
 rintro v3 v4 w ⟨k,rs,r,rv,da,hM,hS⟩
 cases da
 have hle:=hM.le
 refine bR (λh=>?_) (λh=>?_)
 ·obtain⟨k,rfl⟩:∃j,k=j+1:=⟨k-1,by omega⟩
  refine Cg (qM rp r) λw hS=>?_
  refine zA (λhb=>?_) (λhb=>?_)
  ·have hM:=hM.step hb
   refine Cc (yD rp r) ?_;clear hS
   rintro v1 post ⟨rfl,rfl⟩ w hS
   try simp only[app]at hS
   refine Cg (yV rp _) λw hS=>?_;refine Gm λb w hS=>?_
   refine yu (n:=rs.length) (xs:=rs) (y:=(oH r).1) (enc:=dX) hS Xr Xh fQ (λx=>sO x) rfl (by omega) (by omega) λu w hS=>?_
   refine Gp ?_
   refine⟨⟨k,_,_,u,by rw[show ((k+1:Nat):Int)-1=(k:Int) by omega],hM,?_⟩,by dsimp only;omega⟩
   have hS:=hS.oJ (x:=(oH r).1)
   have hS:SL W (fO u (rs++[(oH r).1])::_::.ob (fT rp (oH r).2)::F) _:=hS
   exact aR hS
  ·rw[hM.stop (.inr hb)]
   exact⟨_,⟨by show rs.length<=1000;omega,rfl⟩,aR hS⟩
 ·rw[hM.stop (.inl (by omega))]
  exact⟨_,⟨by show rs.length<=1000;omega,rfl⟩,aR hS⟩
theorem jo.nil(H:aW):jo H [] []:=⟨rfl,λi v C h1 h2=>by simp at h1⟩
theorem jo.snoc{H:aW}{vs:List Value}{ts:List (List Row)}(h:jo H vs ts){v:Value}{C:List Row}(hv:dy H 2 v C.length (C.map dX).flatten):jo H (vs++[v]) (ts++[C]):=by
 have hl:=h.1
 refine⟨by rw[List.length_append,List.length_append,hl];rfl,λi u D h1 h2=>?_⟩
 rcases Nat.lt_or_ge i vs.length with hi|hi
 ·rw[List.getElem?_append_left hi]at h1
  rw[List.getElem?_append_left (by omega)]at h2
  exact h.2 i u D h1 h2
 ·rw[List.getElem?_append_right hi]at h1
  rw[List.getElem?_append_right (by omega)]at h2
  obtain⟨e,rfl⟩:i-vs.length=0/\v=u:=by
   cases hk:i-vs.length with
   | zero=>rw[hk]at h1;exact⟨rfl,by simpa using h1⟩
   | succ n=>rw[hk]at h1;simp at h1
  rw[show i-ts.length=0 by omega]at h2
  obtain rfl:C=D:=by simpa using h2
  exact hv
def wQ(X:Chunk)(H:aW)(b:List UInt8)(u:Value)(post:List Chunk):Prop:=match iD b with
 | none=>u= .tuple #[.int .i64 0,.slice none 0 0,.int .i64 3]/\∃H',H.le H'/\post=[X,.mem H']
 | some x=>∃v H',H.le H'/\nU H' v x.2/\u= .tuple #[.int .i64 x.1,v,.int .i64 0]/\post=[X,.mem H']
theorem Pp{l:List dH}(h:¬((km ⟨l,false⟩).2.bad=false/\(km ⟨l,false⟩).2.l=[]/\g8 (km ⟨l,false⟩).1.1 (km ⟨l,false⟩).1.2=true)):nI l=none:=by
 unfold nI;simp only;rw[if_neg h]
theorem XY{l:List dH}(h:(km ⟨l,false⟩).2.bad=false/\(km ⟨l,false⟩).2.l=[]/\g8 (km ⟨l,false⟩).1.1 (km ⟨l,false⟩).1.2=true):nI l=some (km ⟨l,false⟩).1:=by
 unfold nI;simp only;rw[if_pos h]
structure Da(l:List dH)(aI:Int)(r1:cw):Prop where
 aI:(km ⟨l,false⟩).1.1=aI
 ts:(km ⟨l,false⟩).1.2=(eS lr (ed 8 r1).1.toNat (ed 8 r1).2).1
 rd:(km ⟨l,false⟩).2=(eS lr (ed 8 r1).1.toNat (ed 8 r1).2).2
theorem Da.is(l:List dH):Da l (fR ⟨l,false⟩).1 (fR ⟨l,false⟩).2:=⟨rfl,rfl,rfl⟩
theorem Y9(X:Chunk)(H:aW)(v:Value)(bs:List UInt8)(hv:dN X v bs)(hN:bs.length<=140737488355328):SP 219 [v] [X,.mem H] (wQ X H bs):=by
 intro W F w hS;apply bIy;delta Jn aF dc ai bF;(try simp only[app]at hS)
 have eN:iD bs=none->∀{w:World} {H':aW},H.le H'->SL W (X::.mem H'::F) w->∃post,wQ X H bs (.tuple #[.int .i64 0,.slice none 0 0,.int .i64 3]) post/\SL W (app post F) w:=λh w H' hh hS=>⟨[X,.mem H'],by unfold wQ;rw[h];exact⟨rfl,H',hh,rfl⟩,hS⟩
 refine Cc (Yy X v bs hv hN) ?_;clear hS
 rintro r post hq w hS
 unfold nX at hq
 cases ht:gN bs with
 | error e=>
  rw[ht]at hq
  obtain⟨rfl,rfl⟩:=hq
  have hd:iD bs=none:=by unfold iD;rw[ht]
  have he:e≠0:=by have:=CX ht;omega
  (try simp only[app]at hS);refine Gp ?_
  exact za (λ_=>eN hd (aW.le_refl H) (aR hS)) (λh=>absurd he h)
 | ok pn=>
  obtain⟨p,n⟩:=pn
  rw[ht]at hq
  obtain⟨pv,rfl,rfl⟩:=hq
  (try simp only[app]at hS);refine Gp ?_
  refine za (λh=>absurd rfl h) (λ_=>?_)
  refine zH hS Xh hv ?_
  refine bR (λh=>?_) (λh=>?_)
  ·have hd:iD bs=none:=by unfold iD;rw[ht];simp only;rw[if_neg (by omega)]
   exact eN hd (aW.le_refl H) (aR hS)
  have uF:n=bs.length:=by omega
  refine Cc (yT _ pv p dN.own) ?_;clear hS
  rintro r post hq w hS
  unfold nk at hq
  cases hd:h_ p with
  | error e=>
   rw[hd]at hq
   obtain⟨rfl,rfl⟩:=hq
   have he:=Bl hd
   have hd:iD bs=none:=by unfold iD;rw[ht];simp only;rw[if_pos uF,hd]
   (try simp only[app]at hS);refine Gp ?_
   exact za (λ_=>eN hd (aW.le_refl H) (aR hS)) (λh=>absurd he h)
  | ok l=>
   rw[hd]at hq
   obtain⟨lv,rfl,rfl⟩:=hq
   have hI:=DZ ht uF hd
   (try simp only[app]at hS);refine Gp ?_
   refine za (λh=>absurd rfl h) (λ_=>?_)
   refine Cc (Z3 lv l) ?_;clear hS
   rintro _ post ⟨rp,rfl,rfl⟩ w hS
   try simp only[app]at hS
   refine Cc (yD rp ⟨l,false⟩) ?_;clear hS
   rintro v1 post ⟨rfl,rfl⟩ w hS
   try simp only[app]at hS
   have hR:=Da.is l
   generalize (fR ⟨l,false⟩).1=aI at *
   generalize (fR ⟨l,false⟩).2=r1 at *
   have z':=CQ (m:=8) (by decide) r1
   refine Cc (zV rp r1 8) ?_;clear hS
   rintro v1 post ⟨rfl,rfl⟩ w hS
   try simp only[app]at hS
   have jJ:=hR.ts
   have dE:=hR.rd
   generalize (ed 8 r1).1=n1 at *
   generalize (ed 8 r1).2=r2 at *
   have hS:SL W (.ob (a7 (.slice none 0 0) 53 1 ([]:List (List Row)).length [])::_) _:=a7.nil hS
   refine⟨λus w=>∃(k:Nat) (ts:List (List Row)) (r:cw) (tv:Value) (vs:List Value) (H':aW),us=[tv,.int .i64 k]/\nj lr n1.toNat r2 ts k r/\(∀C∈ts,C.length<=1000)/\H.le H'/\jo H' vs ts/\SL W (.ob (a7 tv 53 1 ts.length vs)::.ob (fT rp r)::X::.mem H'::F) w,
    λus _=>match us with|[_,.int _ i]=>i.toNat|_=>0,⟨n1.toNat,[],r2,.slice none 0 0,[],H,by rw[show ((n1.toNat:Nat):Int)=n1 by omega],nj.start _ _ _,by simp,aW.le_refl H,jo.nil H,aR hS⟩,?_⟩
   clear hS
   rintro tv lu w ⟨k,ts,r,_,vs,H',da,hM,sV,hh,jU,hS⟩
   cases da
   have hle:=hM.le
   refine bR (λh=>?_) (λh=>?_)
   ·obtain⟨k,rfl⟩:∃j,k=j+1:=⟨k-1,by omega⟩
    have hM:=hM.step
    refine Cc (qO rp r) ?_;clear hS
    rintro rv post ⟨hl,rfl⟩ w hS
    try simp only[app]at hS
    obtain⟨H2,eh,hO,hS⟩:=zE (H:=H') (v:=rv) hS Xp
    have fW:=hO.one
    refine zy hS (Bu fW) λb w hS=>?_
    refine zx (n:=ts.length) (m:=1) hS Xr (iP (cs:=[rv]) hS Xh rfl) rfl rfl (by simpa using fW) (by omega) (by omega) ?_
    clear hS;intro u w hS
    refine Gp ?_
    refine⟨⟨k,_,_,u,vs++[rv],H2,by rw[show ((k+1:Nat):Int)-1=(k:Int) by omega],hM,λC hC=>?_,aW.le_trans hh eh,(jU.mono eh).snoc hO,?_⟩,by dsimp only;omega⟩
    ·rcases List.mem_append.1 hC with hC|hC
     ·exact sV C hC
     ·rw[List.mem_singleton.1 hC];exact hl
    ·have hS:=hS.oJ (x:=(lr r).1)
     exact aR hS
   ·obtain rfl:k=0:=by omega
    rw[hM.stop]at jJ dE
    have jJ:(km ⟨l,false⟩).1.2=ts:=jJ
    have dE:(km ⟨l,false⟩).2=r:=dE
    have j8:=hR.aI
    obtain⟨H2,eh,hO,hS⟩:=zE (H:=H') (v:=tv) hS Xp
    have gv:=aW.le_trans hh eh
    have hT:nU H2 tv ts:=⟨vs,hO,jU.mono eh⟩
    refine Cg (Z1 rp r) λw hS=>?_
    refine zA (λhb=>?_) (λhb=>?_)
    ·have hb:=of_decide_eq_false hb
     exact eN (by rw[hI];exact Pp λh=>hb ⟨by rw[<- dE];exact h.1,by rw[<- dE];exact h.2.1⟩) gv (aR hS)
    ·have hb:=of_decide_eq_true hb
     refine Cg (YI H2 tv aI ts hT (by omega) (λC hC=>by have:=sV C hC;omega)) λw hS=>?_
     refine zA (λhm=>?_) (λhm=>?_)
     ·exact eN (by rw[hI];exact Pp λh=>by rw[j8,jJ,hm]at h;cases h.2.2) gv (aR hS)
     ·skip
      have he:=XY (l:=l) ⟨by rw[dE];exact hb.1,by rw[dE];exact hb.2,by rw[j8,jJ];exact hm⟩
      refine⟨[X,.mem H2],?_,aR hS⟩
      unfold wQ
      rw[hI,he]
      simp only
      rw[j8,jJ]
      exact⟨tv,H2,gv,hT,rfl,rfl⟩
def gW:List dz->Prop
 | []=>True
 | [_]=>True
 | s::t::r=>t.first=s.next/\gW (t::r)
theorem gW.tail{s:dz}{L:List dz}(h:gW (s::L)):gW L:=by
 cases L with
 | nil=>trivial
 | cons t r=>exact h.2
theorem gW.drop{L:List dz}(h:gW L):∀i,gW (L.drop i)
 | 0=>h
 | i+1=>by
  cases L with
  | nil=>exact trivial
  | cons s L=>exact gW.drop h.tail i
theorem gW.snoc:∀{L:List dz} {x:dz},gW L->(L≠[]->x.first=b9 L+1)->gW (L++[x])
 | [],x,_,_=>trivial
 | [s],x,_,h=>⟨by have:=h (by simp);simp only[b9,List.getLast?_singleton]at this;omega,trivial⟩
 | s::t::r,x,h,hx=>by
  refine⟨h.1,?_⟩
  refine gW.snoc (L:=t::r) h.2 λ_=>?_
  have:=hx (by simp)
  simp only[b9,List.getLast?_cons_cons]at this ⊢
  exact this
theorem gW.last:∀{A:List dz} {s t:dz},gW (A++[s])->t.first=s.first->gW (A++[t])
 | [],s,t,_,_=>trivial
 | [a],s,t,h,e=>⟨by rw[e];exact h.1,trivial⟩
 | a::b::r,s,t,h,e=>⟨h.1,gW.last (A:=b::r) h.2 e⟩
def Tr(g:dJ):Prop:=∀x,g.dM=some x->0<=x.file/\x.file<=100000/\(x.fresh=false->∃s,g.bI.getLast?=some s/\s.file=x.file/\x.kV=s.size)/\(x.fresh=true->∀s,g.bI.getLast?=some s->s.file≠x.file)
structure kP(g:dJ)(M:Nat):Prop where
 ok:g.Ok M
 seq:gW g.bI
 hd:b9 g.bI<=1099511627776
 dM:Tr g
theorem kP.mono{g:dJ}{N M:Nat}(h:kP g N)(hm:N<=M):kP g M:=⟨h.ok.mono hm,h.seq,h.hd,h.dM⟩
theorem Rc(g:dJ)(d:DS):(dI g d).1.1.dM=if (dI g d).2=0 then none else g.dM:=by
 unfold dI
 split
 ·rename_i h;simp[h]
 ·rename_i x h
  simp only
  split<;>simp[h]
theorem ai8{g:dJ}{d:DS}{M:Nat}(h:kP g M):kP (dI g d).1.1 M:=by
 obtain⟨h1,h2,h3⟩:=te g d
 refine⟨F_ h.ok,by rw[h1];exact h.seq,by rw[h1];exact h.hd,λx hx=>?_⟩
 rw[Rc]at hx
 split at hx
 ·cases hx
 ·rw[h1];exact h.dM x hx
theorem BU(A:List dz)(s:dz):b9 (A++[s])=s.next-1:=by
 unfold b9;rw[List.getLast?_concat]
theorem aF3{g:dJ}{M:Nat}(h:kP g M){p:List UInt8}{x:il}(hw:vm g p x)(ht:g.dM=none):kP {g with bI:=iz g.bI x p} (M+(28+p.length)):=by
 obtain⟨k1,k2⟩:=GA h.ok hw
 have hb:=h.ok
 have xQ:=hw.hd
 obtain⟨A,s,hA⟩:=Cz hw
 have Ah:gW (A++[s])/\s.next-1<=b9 g.bI:=by
  rw[<- hA]
  unfold oC at hA ⊢
  split
  ·rename_i hf
   rw[if_pos hf]at hA
   have hs:=List.append_inj' hA rfl
   have e:s=⟨x.file,b9 g.bI+1,0,[]⟩:=by simpa using hs.2.symm
   refine⟨h.seq.snoc λ_=>rfl,?_⟩
   rw[e];simp[dz.next]
  ·rename_i hf
   rw[if_neg hf]at hA
   refine⟨h.seq,?_⟩
   rw[hA,BU];exact Int.le_refl _
 rw[wy _ _ _ hA]at k1 k2 ⊢
 refine⟨⟨k1,hb.b0,hb.b1,hb.s0,hb.s1,by show (A++[oO s x.b.length p]).length<=_;omega⟩,Ah.1.last rfl,?_,λy hy=>?_⟩
 ·show b9 (A++[oO s x.b.length p])<=_
  rw[BU]
  have e:(oO s x.b.length p).next=s.next+1:=by simp[dz.next,oO];omega
  rw[e];omega
 ·have:g.dM=some y:=hy
  rw[ht]at this;cases this
theorem TV{g:dJ}{d:DS}{M:Nat}(h:kP g M)(p:List UInt8):kP (fP g d p).1.1 (M+(28+p.length)):=by
 unfold fP
 split
 ·exact h.mono (by omega)
 ·rename_i x hx
  have hw:=Gz h.ok hx
  have hm:=ai8 (d:=d) h
  obtain⟨m1,_,_⟩:=te g d
  have mt:=Rc g d
  simp only
  split
  ·exact hm.mono (by omega)
  ·rename_i h0
   have h0:(dI g d).2=0:=by simpa using h0
   rw[if_pos h0]at mt
   split
   ·exact hm.mono (by omega)
   ·split
    ·exact hm.mono (by omega)
    ·refine aF3 hm ⟨hw.pl,by rw[m1];exact hw.hd,by rw[m1];exact hw.oE,hw.f0,hw.bl,hw.pos⟩ mt
theorem aio{L:List dz}{R:List PF}{f:Int}{last:Bool}(h:gW L)(hh:b9 L<=1099511627776):gW (iX L R f last).2/\b9 (iX L R f last).2<=1099511627776:=by
 unfold iX
 simp only
 split
 ·exact⟨h,hh⟩
 ·split
  ·exact⟨h,hh⟩
  ·rename_i k l n hr hc
   refine⟨h.snoc λhL=>?_,?_⟩
   ·show k=b9 L+1
    have:0<L.length:=List.length_pos_iff.2 hL
    rcases Int.lt_trichotomy k (b9 L+1) with h1|h1|h1
    ·exact absurd (.inr (.inl ⟨this,by omega⟩)) hc
    ·exact h1
    ·exact absurd (.inr (.inl ⟨this,by omega⟩)) hc
   ·show b9 (L++[_])<=_
    rw[BU]
    simp only[dz.next]
    rcases Int.lt_or_le 1099511627776 (k+l.length-1) with h1|h1
    ·exact absurd (.inr (.inr h1)) hc
    ·exact h1
theorem PT{R:List PF}:∀(ids:List Int) (prev:Option Int) (L:List dz) (wh:Bool),gW L->b9 L<=1099511627776->∀{L' u7},jw R ids prev L wh=some (L',u7)->gW L'/\b9 L'<=1099511627776
 | [],prev,L,wh,h,hh,L',u7,e=>by cases e;exact⟨h,hh⟩
 | f::r,prev,L,wh,h,hh,L',u7,e=>by
  rw[Ax]at e
  obtain⟨k1,k2⟩:=aio (R:=R) (f:=f) (last:=r.isEmpty) h hh
  split at e
  ·cases e
  ·split at e
   ·cases e
   ·exact PT r _ _ _ k1 k2 e
def oZ:List dz->Int->Option (List UInt8)
 | [],_=>none
 | s::r,n=>if n-s.first<s.l.length then s.l[(n-s.first).toNat]? else oZ r n
theorem Nm:∀(L:List dz) (n:Int),gW L->(∀s,L.head?=some s->s.first<=n)->oZ L n=g9 L n
 | [],n,_,_=>rfl
 | [s],n,_,h=>by
  have h0:=h s rfl
  have jH:s.next=s.first+s.l.length:=rfl
  by_cases h1:n-s.first<s.l.length
  ·rw[oZ,g9,if_pos h1,if_pos (c:=s.first<=n/\n<s.next) ⟨h0,by omega⟩]
  ·rw[oZ,g9,if_neg h1,if_neg (c:=s.first<=n/\n<s.next) (by omega)];rfl
 | s::t::r,n,hs,h=>by
  have h0:=h s rfl
  have jH:s.next=s.first+s.l.length:=rfl
  have h1:=hs.1
  by_cases h2:n-s.first<s.l.length
  ·rw[oZ,g9,if_pos h2,if_pos (c:=s.first<=n/\n<s.next) ⟨h0,by omega⟩]
  ·rw[oZ,g9,if_neg h2,if_neg (c:=s.first<=n/\n<s.next) (by omega)]
   exact Nm (t::r) n hs.2 λx hx=>by cases hx;omega
theorem RX:∀(L:List dz) (n:Int),gW L->(∀s∈L,0<=(s.l.length:Int))->n<e_ L->g9 L n=none
 | [],n,_,_,_=>rfl
 | [s],n,_,_,h=>by
  have h:n<s.first:=h
  rw[g9,if_neg (by omega)];rfl
 | s::t::r,n,hs,hp,h=>by
  have h:n<s.first:=h
  have h1:=hs.1
  simp only[dz.next]at h1
  rw[g9,if_neg (by omega)]
  exact RX (t::r) n hs.2 (λx hx=>by omega) (by show n<t.first;omega)
theorem RV:∀(L:List dz) (n:Int),gW L->b9 L<n->g9 L n=none
 | [],n,_,_=>rfl
 | [s],n,_,h=>by
  have h:s.next-1<n:=h
  rw[g9,if_neg (by omega)];rfl
 | s::t::r,n,hs,h=>by
  have hh:b9 (s::t::r)=b9 (t::r):=by simp only[b9,List.getLast?_cons_cons]
  rw[hh]at h
  have hle:∀(L:List dz) (x:dz),gW (x::L)->x.next-1<=b9 (x::L):=by
   intro L
   induction L with
   | nil=>intro x _;exact Int.le_refl _
   | cons y L ih=>
    intro x hx
    have:=ih y hx.2
    have h1:=hx.1
    have h2:b9 (x::y::L)=b9 (y::L):=by simp only[b9,List.getLast?_cons_cons]
    rw[h2]
    simp only[dz.next]at *
    omega
  have h1:=hle r t hs.2
  have h2:=hs.1
  have h3:s.next<=n:=by simp only[dz.next]at *;omega
  rw[g9,if_neg (by omega)]
  exact RV (t::r) n hs.2 h
theorem awa(bI:List dz)(base size:Int)(x:tN)(d:DS):dI ⟨bI,base,size,some x⟩ d =
  ((⟨bI,base,size,if (if x.fresh=true then d.remove x.file else d.cut x.file x.kV).2=0 then none else some x⟩,(if x.fresh=true then d.remove x.file else d.cut x.file x.kV).1),(if x.fresh=true then d.remove x.file else d.cut x.file x.kV).2):=rfl
theorem qH(lp dp:Nat)(g:dJ)(d:DS)(N:Nat)(b5:d.Ok N)(hN:N<=140737488355328)(eJ:d.ops<=100000):
  SP 287 [.pointer (some ⟨lp,0,none⟩)] [.ob (eb lp dp g),.ob (b_ dp d)] (dj (.int .i64 (dI g d).2) [.ob (eb lp dp (dI g d).1.1),.ob (b_ dp (dI g d).1.2)]):=by
 intro W F w hS;apply bWf;delta Ke aF bw dx ai dk;(try simp only[app]at hS)
 obtain⟨sv,tv,xs,hx,hS⟩:=eb.iff.1 hS
 obtain⟨bI,base,size,dM⟩:=g
 simp only at hx hS
 cases dM with
 | none=>
  rw[show dI ⟨bI,base,size,none⟩ d=((⟨bI,base,size,none⟩,d),0) from rfl]
  obtain⟨rfl,hS⟩:=w4.1 (SL.b6 hS (t:=.ob (fV tv none)::.pt lp (fx sv tv dp base size) 148::fm sv xs::.ob (zf dF xs)::.ob (b_ dp d)::F) Xi)
  refine Gp ?_
  refine zw ?_
  have hS:=(w4 (v:=.pointer none)).2 ⟨rfl,hS⟩
  exact⟨_,⟨rfl,rfl⟩,eb.iff.2 ⟨sv,.pointer none,xs,hx,aR hS⟩⟩
 | some x=>
  obtain⟨tb,rfl,hS⟩:=Dn.1 (SL.b6 hS (t:=.ob (fV tv (some x))::.pt lp (fx sv tv dp base size) 148::fm sv xs::.ob (zf dF xs)::.ob (b_ dp d)::F) Xi)
  rw[awa]
  refine Gp ?_
  refine zq ?_
  refine Gp ?_
  refine y0 (λhf=>?_) (λhf=>?_)
  ·simp only[if_pos hf]
   refine Gn λw hS=>?_
   refine Cg (Zn dp d N b5 eJ x.file) λw hS=>?_
   refine za (λh=>?_) (λh=>?_)
   ·rw[if_pos h]
    refine Gn λw hS=>?_
    have hS:=(w4 (v:=.pointer none)).2 ⟨rfl,hS⟩
    exact⟨_,⟨rfl,rfl⟩,eb.iff.2 ⟨sv,.pointer none,xs,hx,aR hS⟩⟩
   ·rw[if_neg h]
    have hS:=(Dn (v:=.pointer (some ⟨tb,0,none⟩)) (x:=x)).2 ⟨tb,rfl,SL.b6 hS (t:=.pt tb [.int .i64 x.file,.int .i64 x.kV,.bool x.fresh] 408::.pt lp (fx sv (.pointer (some ⟨tb,0,none⟩)) dp base size) 148::fm sv xs::.ob (zf dF xs)::.ob (b_ dp (d.remove x.file).1)::F) Xi⟩
    exact⟨_,⟨rfl,rfl⟩,eb.iff.2 ⟨sv,_,xs,hx,aR hS⟩⟩
  ·have hf:¬x.fresh=true:=by rw[hf];decide
   simp only[if_neg hf]
   refine Gn λw hS=>?_
   refine Cg (Yj dp d N b5 hN eJ x.file x.kV) λw hS=>?_
   refine za (λh=>?_) (λh=>?_)
   ·rw[if_pos h]
    refine Gn λw hS=>?_
    have hS:=(w4 (v:=.pointer none)).2 ⟨rfl,hS⟩
    exact⟨_,⟨rfl,rfl⟩,eb.iff.2 ⟨sv,.pointer none,xs,hx,aR hS⟩⟩
   ·rw[if_neg h]
    have hS:=(Dn (v:=.pointer (some ⟨tb,0,none⟩)) (x:=x)).2 ⟨tb,rfl,SL.b6 hS (t:=.pt tb [.int .i64 x.file,.int .i64 x.kV,.bool x.fresh] 408::.pt lp (fx sv (.pointer (some ⟨tb,0,none⟩)) dp base size) 148::fm sv xs::.ob (zf dF xs)::.ob (b_ dp (d.cut x.file x.kV).1)::F) Xi⟩
    exact⟨_,⟨rfl,rfl⟩,eb.iff.2 ⟨sv,_,xs,hx,aR hS⟩⟩
def Tm(lp dp:Nat)(g:dJ)(d:DS)(X:Chunk)(p:List UInt8)(y:Except Int il)(r:Value)(post:List Chunk):Prop:=match y with
 | .error e=>(∃z,r= .tuple #[.agg #[.int .i64 0,.bool false,.slice none 0 0],.int .i64 z]/\z=e/\z≠0)/\post=[.ob (eb lp dp g),.ob (b_ dp d),X]
 | .ok x=>∃a c,r= .tuple #[.agg #[.int .i64 x.file,.bool x.fresh,.slice a x.b.length c],.int .i64 0]/\post=[.ob (a7 (.slice a x.b.length c) 5 1 x.b.length (x.b.map cI)),.ob (eb lp dp g),.ob (b_ dp d),X]
theorem dJ.Ok.xs{g:dJ}{N:Nat}(h:g.Ok N){xs:List dh}(hx:xs.map dh.pl=g.bI):(∀s∈xs.map dh.pl,jA s N)/\xs.length<=N/\0<=b9 g.bI/\b9 g.bI<=1099511627776+N:=by
 refine⟨by rw[hx];exact h.bI,?_,rS h.bI⟩
 have:=h.ln
 rw[<- hx,List.length_map]at this;exact this
theorem qL(X:Chunk)(lp dp:Nat)(g:dJ)(d:DS)(v:Value)(p:List UInt8)(hv:dN X v p)(hp:p.length<=140737488355328){M:Nat}(hg:g.Ok M)(hM:M<=1000000000000000):
  SP 286 [.pointer (some ⟨lp,0,none⟩),v] [.ob (eb lp dp g),.ob (b_ dp d),X] (Tm lp dp g d X p (fE g d.off p)):=by
 intro W F w hS;apply bWe;delta Kd aF bw a_ df ai bF;(try simp only[app]at hS)
 obtain⟨sv,tv,xs,hx,hS⟩:=eb.iff.1 hS
 obtain⟨b5,hl,OC,xP⟩:=hg.xs hx
 have Ob:=hg.b0
 have rP:=hg.b1
 have po:=hg.s1
 have Xn:=hg.s0
 have mA:b9 (xs.map dh.pl)=b9 g.bI:=by rw[hx]
 refine Gm λb w hS=>?_
 refine Cc (qc X v p hv hp) ?_;clear hS
 rintro r post hQ w hS
 unfold nq at hQ
 by_cases mT:1048576<p.length
 ·rw[if_pos mT]at hQ
  obtain⟨rfl,rfl⟩:=hQ
  have fo:fE g d.off p= .error 1:=by unfold fE;rw[if_pos mT]
  rw[fo]
  (try simp only[app]at hS);refine Gp ?_
  refine za (λ_=>?_) (λh=>absurd (by decide) h)
  refine Gn λw hS=>?_
  exact⟨_,⟨⟨1,rfl,rfl,by decide⟩,rfl⟩,SL.b6 (eb.iff.2 ⟨sv,tv,xs,hx,SL.b6 hS (t:=.pt lp (fx sv tv dp g.base g.size) 148::fm sv xs::.ob (zf dF xs)::.ob (fV tv g.dM)::.ob (b_ dp d)::X::F) Xi⟩) Xi⟩
 ·rw[if_neg mT]at hQ
  obtain⟨u,rfl,rfl⟩:=hQ
  try simp only[app]at hS
  have hu:=hS.kL .hd
  obtain⟨au,cu,eu,_⟩:=a7.at hS .hd
  subst eu
  refine Gp ?_
  refine za (λh=>absurd rfl h) (λ_=>?_)
  refine Gp ?_
  refine Cg (Zc dp d) λw hS=>?_
  have ig:∀{w:World} {l:List Chunk},SL W (.pt lp (fx sv tv dp g.base g.size) 148::fm sv xs::.ob (zf dF xs)::.ob (fV tv g.dM)::l) w->SL W (.ob (eb lp dp g)::l) w:=λh=>eb.iff.2 ⟨sv,tv,xs,hx,h⟩
  refine y0 (λho=>?_) (λho=>?_)
  ·have fo:fE g d.off p= .error 8:=by unfold fE;rw[if_neg mT,if_pos ho]
   rw[fo]
   refine Gn λw hS=>?_
   exact⟨_,⟨⟨8,rfl,rfl,by decide⟩,rfl⟩,SL.b6 (ig (SL.b6 hS (t:=.pt lp (fx sv tv dp g.base g.size) 148::fm sv xs::.ob (zf dF xs)::.ob (fV tv g.dM)::.ob (b_ dp d)::X::F) Xi)) Xi⟩
  ·refine Gp ?_
   refine Cg (yi lp (fx sv tv dp g.base g.size) 148 sv xs rfl b5 hM (by omega)) λw hS=>?_
   rw[mA]
   refine za (λh1=>?_) (λh1=>?_)
   ·have fo:fE g d.off p= .error 7:=by unfold fE;rw[if_neg mT,if_neg (by rw[ho];decide),if_pos h1]
    rw[fo]
    refine Gn λw hS=>?_
    exact⟨_,⟨⟨7,rfl,rfl,by decide⟩,rfl⟩,SL.b6 (ig (SL.b6 hS (t:=.pt lp (fx sv tv dp g.base g.size) 148::fm sv xs::.ob (zf dF xs)::.ob (fV tv g.dM)::.ob (b_ dp d)::X::F) Xi)) Xi⟩
   ·refine Gp ?_
    refine⟨λvs w=>∃f:Int,vs=[.int .i64 f]/\fE g d.off p=jT g f p/\-1000000<=f/\f<=1000000/\SL W (.pt b [.int .i64 0,.bool false,.slice none 0 0] 318::.pt lp (fx sv tv dp g.base g.size) 148::fm sv xs::.ob (zf dF xs)::.ob (fV tv g.dM)::.ob (b_ dp d)::.ob (a7 (.slice au (dG p).length cu) 5 1 (dG p).length ((dG p).map cI))::X::F) w,?_,?_⟩
    ·refine Gp ?_
     refine zT hS Xh ?_
     refine bR (λh2=>?_) (λh2=>?_)
     ·refine Gp ?_
      have e:((xs.length:Nat):Int)-1=((xs.length-1:Nat):Int):=by omega
      rw[e]
      have hj:xs.length-1<xs.length:=by omega
      refine YP hS Xh hj ?_
      have hm:(xs[xs.length-1]'hj).pl∈xs.map dh.pl:=List.mem_map.2 ⟨_,List.getElem_mem hj,rfl⟩
      have p9:g.bI.getLast?=some (xs[xs.length-1]'hj).pl:=by
       rw[<- hx,List.getLast?_map,List.getLast?_eq_getElem?,List.getElem?_eq_getElem hj];rfl
      have rZ:=b5 _ hm
      generalize xs[xs.length-1]'hj=x at *
      have mZ:fE g d.off p=if x.pl.l.length=0\/(x.pl.size:Int)+(dG p).length<=g.size then .ok ⟨x.pl.file,false,dG p⟩ else jT g (x.pl.file+1) p:=by
       unfold fE;rw[if_neg mT,if_neg (by rw[ho];decide),if_neg (by omega),p9]
      have nG:x.pl.l.length=x.es.length:=by simp[dh.pl,oR]
      have Pf:x.pl.size=x.size:=rfl
      have Ca:x.pl.file=x.file:=rfl
      have k1:=rZ.f0
      have k2:=rZ.f1
      have k3:=rZ.sz
      rw[nG,Pf,Ca]at mZ
      rw[Ca]at k1 k2
      rw[Pf]at k3
      have B7:=lk p
      unfold eK dh.lv
      refine Gm λb w hS=>?_
      refine za (λh3=>?_) (λh3=>?_)
      ·rw[if_pos (.inl (by omega))]at mZ
       rw[mZ]
       refine Gn λw hS=>?_
       exact⟨_,⟨au,cu,rfl,rfl⟩,SL.b6 (ig (SL.b6 hS (t:=.pt lp (fx sv tv dp g.base g.size) 148::fm sv xs::.ob (zf dF xs)::.ob (fV tv g.dM)::.ob (a7 (.slice au (dG p).length cu) 5 1 (dG p).length ((dG p).map cI))::.ob (b_ dp d)::X::F) Xi)) Xi⟩
      ·refine bR (λh4=>?_) (λh4=>?_)
       ·rw[if_pos (.inr (by omega))]at mZ
        rw[mZ]
        refine Gn λw hS=>?_
        exact⟨_,⟨au,cu,rfl,rfl⟩,SL.b6 (ig (SL.b6 hS (t:=.pt lp (fx sv tv dp g.base g.size) 148::fm sv xs::.ob (zf dF xs)::.ob (fV tv g.dM)::.ob (a7 (.slice au (dG p).length cu) 5 1 (dG p).length ((dG p).map cI))::.ob (b_ dp d)::X::F) Xi)) Xi⟩
       ·rw[if_neg (by omega)]at mZ
        refine Gp ?_
        exact⟨x.file+1,rfl,mZ,by omega,by omega,aR hS⟩
     ·have mZ:fE g d.off p=jT g g.base p:=by
       have z_:g.bI=[]:=by
        rw[<- hx]
        have:xs=[]:=List.eq_nil_of_length_eq_zero (by omega)
        rw[this];rfl
       unfold fE;rw[if_neg mT,if_neg (by rw[ho];decide),if_neg (by omega),z_];rfl
      exact⟨g.base,rfl,mZ,by omega,by omega,aR hS⟩
    ·clear hS
     rintro v8 w ⟨f,eY,mZ,f0,f1,hS⟩
     cases eY
     rw[mZ]
     unfold jT
     refine bR (λh2=>?_) (λh2=>?_)
     ·rw[if_pos h2]
      refine Gn λw hS=>?_
      exact⟨_,⟨⟨7,rfl,rfl,by decide⟩,rfl⟩,SL.b6 (ig (SL.b6 hS (t:=.pt lp (fx sv tv dp g.base g.size) 148::fm sv xs::.ob (zf dF xs)::.ob (fV tv g.dM)::.ob (b_ dp d)::X::F) Xi)) Xi⟩
     ·rw[if_neg h2]
      refine Gp ?_
      refine Cg (yi lp (fx sv tv dp g.base g.size) 148 sv xs rfl b5 hM (by omega)) λw hS=>?_
      rw[mA]
      refine Cc (YS (b9 g.bI+1)) ?_;clear hS
      rintro r post hQ w hS
      unfold vh at hQ
      rw[if_neg (by omega)]at hQ
      obtain⟨y,rfl,rfl⟩:=hQ
      try simp only[app]at hS
      have hy:=hS.kL .hd
      obtain⟨ay,cy,ey,_⟩:=a7.at hS .hd
      subst ey
      refine Gm λb w hS=>?_
      refine yP (F:=_) (ZE _ 2 _ [_,_] [dG (fw (b9 g.bI+1).toNat),dG p] [.ob (a7 (.slice ay (dG (fw (b9 g.bI+1).toNat)).length cy) 5 1 (dG (fw (b9 g.bI+1).toNat)).length ((dG (fw (b9 g.bI+1).toNat)).map cI)),.ob (a7 (.slice au (dG p).length cu) 5 1 (dG p).length ((dG p).map cI))] rfl rfl ?_ ?_ (by omega)) hS Xp ?_
      ·intro i hi
       match i,hi with
       | 0,_=>exact⟨_,.hd,dN.own⟩
       | 1,_=>exact⟨_,.tl .hd,dN.own⟩
      ·have:=lk p
       have:=lk (fw (b9 g.bI+1).toNat)
       have:=rR (b9 g.bI+1).toNat
       simp;omega
      ·clear hS
       rintro c post rfl w hS;(try simp only[app]at hS)
       have e2:[dG (fw (b9 g.bI+1).toNat),dG p].flatten=dG (fw (b9 g.bI+1).toNat)++dG p:=by simp
       rw[e2]at hS
       have hc:=hS.kL .hd
       obtain⟨ac,cc,ec,_⟩:=a7.at hS .hd
       subst ec
       refine Gn λw hS=>?_
       have e3:(dG (fw (b9 g.bI+1).toNat)).length+(dG p).length=(dG (fw (b9 g.bI+1).toNat)++dG p).length:=by rw[List.length_append]
       rw[e3]
       exact⟨_,⟨ac,cc,rfl,rfl⟩,SL.b6 (ig (SL.b6 hS (t:=.pt lp (fx sv tv dp g.base g.size) 148::fm sv xs::.ob (zf dF xs)::.ob (fV tv g.dM)::.ob (a7 (.slice ac (dG (fw (b9 g.bI+1).toNat)++dG p).length cc) 5 1 (dG (fw (b9 g.bI+1).toNat)++dG p).length ((dG (fw (b9 g.bI+1).toNat)++dG p).map cI))::.ob (b_ dp d)::X::F) Xi)) Xi⟩
def Tq(lp dp:Nat)(g:dJ)(d:DS)(X:Chunk)(y:Except Int il)(r:Value)(post:List Chunk):Prop:=match y with
 | .error e=>e≠0/\r= .tuple #[.agg #[.int .i64 0,.bool false,.slice none 0 0],.int .i64 e]/\post=[.ob (eb lp dp g),.ob (b_ dp d),X]
 | .ok x=>∃a c,r= .tuple #[.agg #[.int .i64 x.file,.bool x.fresh,.slice a x.b.length c],.int .i64 (dI g d).2]/\post=[.ob (a7 (.slice a x.b.length c) 5 1 x.b.length (x.b.map cI)),.ob (eb lp dp (dI g d).1.1),.ob (b_ dp (dI g d).1.2),X]
theorem qf(X:Chunk)(lp dp:Nat)(g:dJ)(d:DS)(v:Value)(p:List UInt8)(hv:dN X v p)(hp:p.length<=140737488355328){M N:Nat}(hg:g.Ok M)(hM:M<=1000000000000000)(b5:d.Ok N)(hN:N<=140737488355328)(eJ:d.ops<=100000):
  SP 229 [.pointer (some ⟨lp,0,none⟩),v] [.ob (eb lp dp g),.ob (b_ dp d),X] (Tq lp dp g d X (fE g d.off p)):=by
 intro W F w hS;apply bI9;delta Jy aF ai bF;(try simp only[app]at hS)
 refine Gm λb w hS=>?_
 refine Cc (qL X lp dp g d v p hv hp hg hM) ?_;clear hS
 rintro r post hQ w hS
 cases fo:fE g d.off p with
 | error e=>
  rw[fo]at hQ
  obtain⟨⟨z,rfl,rfl,hz⟩,rfl⟩:=hQ
  refine Gm λb w hS=>?_
  refine za (λh=>absurd h hz) (λ_=>?_)
  refine Gn λw hS=>?_
  exact⟨_,⟨hz,rfl,rfl⟩,aR hS⟩
 | ok x=>
  rw[fo]at hQ
  obtain⟨a,c,rfl,rfl⟩:=hQ
  refine Gm λb w hS=>?_
  refine za (λ_=>?_) (λh=>absurd rfl h)
  refine Cg (qH lp dp g d N b5 hN eJ) λw hS=>?_
  exact⟨_,⟨a,c,rfl,rfl⟩,aR hS⟩
theorem fm.at{W w:World}{l:List Chunk}{v:Value}{t:TypeId}{xs:List dh}{j:Nat}(h:SL W (.ob (dC v t 4 xs.length (xs.map eK).flatten)::l) w)(hj:j<xs.length):
  ∃b o cap A B,v= .slice (some ⟨b,o,none⟩) xs.length cap/\A.length=o+j*4/\SL W (.pt b (A++(eK xs[j]++B)) t::l) w /\
   ∀y w' l',SL W (.pt b (A++(eK y++B)) t::l') w'->SL W (.ob (dC v t 4 (xs.set j y).length ((xs.set j y).map eK).flatten)::l') w':=by
 obtain⟨b,pre,cap,rest,rfl,hc,hl,hr,hS⟩:=dC.block h (by omega)
 have e:(xs.map eK).flatten=((xs.take j).map eK).flatten++(eK xs[j]++((xs.drop (j+1)).map eK).flatten):=by
  have pq:xs=xs.take j++xs[j]::xs.drop (j+1):=by rw[<- List.drop_eq_getElem_cons hj,List.take_append_drop]
  have e:=congrArg (λl=>(List.map eK l).flatten) pq
  simp only[List.map_append,List.map_cons,List.flatten_append,List.flatten_cons]at e
  exact e
 have el:((xs.take j).map eK).flatten.length=j*4:=by rw[Np,List.length_take];omega
 refine⟨b,pre.length,cap,pre++((xs.take j).map eK).flatten,((xs.drop (j+1)).map eK).flatten++rest,rfl,by rw[List.length_append,el],?_,λy w' l' h'=>?_⟩
 ·rw[e]at hS
  simp only[List.append_assoc]at hS ⊢
  exact hS
 ·have e2:((xs.set j y).map eK).flatten=((xs.take j).map eK).flatten++(eK y++((xs.drop (j+1)).map eK).flatten):=by
   rw[List.set_eq_take_append_cons_drop,if_pos hj]
   simp only[List.map_append,List.map_cons,List.flatten_append,List.flatten_cons]
  have:=dC.mk (b:=b) (t:=t) (sz:=4) (n:=xs.length) (cells:=((xs.set j y).map eK).flatten) (pre:=pre) (rest:=rest) (cap:=cap) hc (by rw[Np,List.length_set]) hr rfl (by rw[e2];simp only[List.append_assoc]at h' ⊢;exact h')
  show SL W (.ob (dC _ t 4 (xs.set j y).length _)::l') w'
  rw[List.length_set]
  exact this
theorem nN{A B:List Value}{cs:List Value}{i:Nat}{u:Value}(h:cs[i]?=some u):(A++(cs++B))[A.length+i]?=some u:=by
 rw[List.getElem?_append_right (by omega),Nat.add_sub_cancel_left,List.getElem?_append_left (List.getElem?_eq_some_iff.1 h).1];exact h
theorem CD{A B:List Value}{cs:List Value}{i:Nat}{u:Value}(h:i<cs.length):(A++(cs++B)).set (A.length+i) u=A++(cs.set i u++B):=by
 rw[List.set_append_right _ _ (by omega),Nat.add_sub_cancel_left,List.set_append_left _ _ h]
theorem Bd{g:dJ}{d:DS}{p:List UInt8}{e:Int}(h:fE g d.off p= .error e):fP g d p=((g,d),(0,e)):=by
 unfold fP;rw[h]
theorem LY{g:dJ}{d:DS}{p:List UInt8}{x:il}(h:fE g d.off p= .ok x)(hm:(dI g d).2≠0):fP g d p=((dI g d).1,(0,(dI g d).2)):=by
 unfold fP;rw[h];simp only;rw[if_pos hm]
theorem LW{g:dJ}{d:DS}{p:List UInt8}{x:il}(h:fE g d.off p= .ok x)(hm:(dI g d).2=0)(ha:((dI g d).1.2.append x.file x.b).2≠0):
  fP g d p=(((dI g d).1.1,((dI g d).1.2.append x.file x.b).1),(0,((dI g d).1.2.append x.file x.b).2)):=by
 unfold fP;rw[h];simp only;rw[if_neg (by simp[hm]),if_pos ha]
theorem LZ{g:dJ}{d:DS}{p:List UInt8}{x:il}(h:fE g d.off p= .ok x)(hm:(dI g d).2=0)(ha:((dI g d).1.2.append x.file x.b).2=0)(hs:(((dI g d).1.2.append x.file x.b).1.sync x.file).2≠0):
  fP g d p=(((dI g d).1.1,(((dI g d).1.2.append x.file x.b).1.sync x.file).1),(0,(((dI g d).1.2.append x.file x.b).1.sync x.file).2)):=by
 unfold fP;rw[h];simp only;rw[if_neg (by simp[hm]),if_neg (by simp[ha]),if_pos hs]
theorem LX{g:dJ}{d:DS}{p:List UInt8}{x:il}(h:fE g d.off p= .ok x)(hm:(dI g d).2=0)(ha:((dI g d).1.2.append x.file x.b).2=0)(hs:(((dI g d).1.2.append x.file x.b).1.sync x.file).2=0):
  fP g d p=(({(dI g d).1.1 with bI:=iz g.bI x p},(((dI g d).1.2.append x.file x.b).1.sync x.file).1),(b9 (iz g.bI x p),0)):=by
 unfold fP;rw[h];simp only;rw[if_neg (by simp[hm]),if_neg (by simp[ha]),if_neg (by simp[hs]),(te g d).1]
theorem RE(s:DS)(f:Int)(b:List UInt8):(s.append f b).1.ops<=s.ops+1:=by
 unfold DS.append;split<;>simp[DS.dB]
theorem aFj(s:DS)(f n:Int):(s.cut f n).1.ops<=s.ops+1:=by
 unfold DS.cut;split
 ·simp
 ·split
  ·simp
  ·split<;>simp[DS.dB]
theorem aFk(s:DS)(f:Int):(s.remove f).1.ops<=s.ops+1:=by
 unfold DS.remove;split
 ·simp
 ·split<;>simp[DS.dB]
theorem RG(g:dJ)(d:DS):(dI g d).1.2.ops<=d.ops+1:=by
 unfold dI;split
 ·simp
 ·simp only
  split
  ·exact aFk _ _
  ·exact aFj _ _ _
theorem YA(X:Chunk)(lp dp:Nat)(g:dJ)(d:DS)(v:Value)(p:List UInt8)(hv:dN X v p)(hp:p.length<=140737488355328){M N:Nat}(hg:g.Ok M)(hM:M<=1000000000000)(b5:d.Ok N)(hN:N<=140737480000000)(eJ:d.ops<=90000):
  SP 147 [.pointer (some ⟨lp,0,none⟩),v] [.ob (eb lp dp g),.ob (b_ dp d),X] (dj (.tuple #[.int .i64 (fP g d p).2.1,.int .i64 (fP g d p).2.2]) [.ob (eb lp dp (fP g d p).1.1),.ob (b_ dp (fP g d p).1.2),X]):=by
 intro W F w hS;apply bFg;delta It aF bw a_ dx cF df ai bF;(try simp only[app]at hS)
 obtain⟨va,vc,rfl,O_⟩:=hv.sl hS Xh
 refine Cc (qf X lp dp g d _ p hv hp hg (by omega) b5 (by omega) (by omega)) ?_;clear hS
 rintro r post hQ w hS
 cases fo:fE g d.off p with
 | error e=>
  rw[fo]at hQ
  obtain⟨hz,rfl,rfl⟩:=hQ
  rw[Bd fo]
  refine Gm λb w hS=>?_
  refine⟨λvs w=>vs=[.int .i64 e]/\SL W (.ob (eb lp dp g)::.ob (b_ dp d)::X::F) w,?_,?_⟩
  ·refine Gp ?_
   refine za (λh=>absurd h hz) (λ_=>⟨rfl,aR hS⟩)
  ·clear hS
   rintro v7 w ⟨eY,hS⟩
   cases eY
   refine⟨λvs w=>vs=[.int .i64 e]/\SL W (.ob (eb lp dp g)::.ob (b_ dp d)::X::F) w,?_,?_⟩
   ·refine Gp ?_
    refine za (λh=>absurd h hz) (λ_=>⟨rfl,hS⟩)
   ·clear hS
    rintro v7 w ⟨eY,hS⟩
    cases eY
    refine Gp ?_
    refine za (λ_=>?_) (λh=>absurd hz h)
    (exact dq hS)
 | ok x=>
  rw[fo]at hQ
  obtain⟨a,c,rfl,rfl⟩:=hQ
  have hw:=Gz hg fo
  have uD:=Ga (g:=g) b5
  have vV:=F_ (d:=d) hg
  have uE:=te g d
  have y_:=RG g d
  have rQ:=hw.bl
  have Xd:=hw.pl
  refine Gm λb w hS=>?_
  obtain⟨wb,rfl⟩:∃k,k=b:=⟨b,rfl⟩
  by_cases hm:(dI g d).2=0
  ·
   have N9:=uD.append x.file x.b
   have V4:=RE (dI g d).1.2 x.file x.b
   have b83:=N9.sync x.file
   have vR:=LX fo hm
   have N6:=LW fo hm
   have r6:=LZ fo hm
   generalize fP g d p=G at *
   generalize dI g d=m at *
   obtain⟨⟨g1,d1⟩,me⟩:=m
   simp only at *
   subst hm
   refine⟨λvs w=>vs=[.int .i64 (d1.append x.file x.b).2]/\SL W (.pt wb [.int .i64 x.file,.bool x.fresh,.slice a x.b.length c] 318::.ob (a7 (.slice a x.b.length c) 5 1 x.b.length (x.b.map cI))::.ob (eb lp dp g1)::.ob (b_ dp (d1.append x.file x.b).1)::X::F) w,?_,?_⟩
   ·refine Gp ?_
    refine za (λ_=>?_) (λh=>absurd rfl h)
    obtain⟨sv,tv,xs,hx,hS⟩:=eb.iff.1 (SL.b6 hS (t:=.ob (eb lp dp g1)::.pt wb [.int .i64 x.file,.bool x.fresh,.slice a x.b.length c] 318::.ob (a7 (.slice a x.b.length c) 5 1 x.b.length (x.b.map cI))::.ob (b_ dp d1)::X::F) Xi)
    refine Gn λw hS=>?_
    refine Cg (TT (.ob (a7 (.slice a x.b.length c) 5 1 x.b.length (x.b.map cI))) dp d1 N uD (by omega) x.file _ x.b (λhS h=>nc hS h) (by omega)) λw hS=>?_
    have hS:=eb.iff.2 ⟨sv,tv,xs,hx,SL.b6 hS (t:=.pt lp (fx sv tv dp g1.base g1.size) 148::fm sv xs::.ob (zf dF xs)::.ob (fV tv g1.dM)::.pt wb [.int .i64 x.file,.bool x.fresh,.slice a x.b.length c] 318::.ob (a7 (.slice a x.b.length c) 5 1 x.b.length (x.b.map cI))::.ob (b_ dp (d1.append x.file x.b).1)::X::F) Xi⟩
    exact aR hS
   ·clear hS
    rintro v7 w ⟨eY,hS⟩
    cases eY
    by_cases ha:(d1.append x.file x.b).2=0
    ·rw[ha]
     refine⟨λvs w=>vs=[.int .i64 ((d1.append x.file x.b).1.sync x.file).2]/\SL W (.pt wb [.int .i64 x.file,.bool x.fresh,.slice a x.b.length c] 318::.ob (a7 (.slice a x.b.length c) 5 1 x.b.length (x.b.map cI))::.ob (eb lp dp g1)::.ob (b_ dp ((d1.append x.file x.b).1.sync x.file).1)::X::F) w,?_,?_⟩
     ·refine Gp ?_
      refine za (λ_=>?_) (λh=>absurd rfl h)
      obtain⟨sv,tv,xs,hx,hS⟩:=eb.iff.1 (SL.b6 hS (t:=.ob (eb lp dp g1)::.pt wb [.int .i64 x.file,.bool x.fresh,.slice a x.b.length c] 318::.ob (a7 (.slice a x.b.length c) 5 1 x.b.length (x.b.map cI))::.ob (b_ dp (d1.append x.file x.b).1)::X::F) Xi)
      refine Gn λw hS=>?_
      refine Cg (Qn dp (d1.append x.file x.b).1 _ N9 (by omega) x.file) λw hS=>?_
      have hS:=eb.iff.2 ⟨sv,tv,xs,hx,SL.b6 hS (t:=.pt lp (fx sv tv dp g1.base g1.size) 148::fm sv xs::.ob (zf dF xs)::.ob (fV tv g1.dM)::.pt wb [.int .i64 x.file,.bool x.fresh,.slice a x.b.length c] 318::.ob (a7 (.slice a x.b.length c) 5 1 x.b.length (x.b.map cI))::.ob (b_ dp ((d1.append x.file x.b).1.sync x.file).1)::X::F) Xi⟩
      exact aR hS
     ·clear hS
      rintro v7 w ⟨eY,hS⟩
      cases eY
      by_cases hs:((d1.append x.file x.b).1.sync x.file).2=0
      ·rw[hs]
       have hG:=vR ha hs
       subst hG
       clear vR N6 r6 V4
       generalize ((d1.append x.file x.b).1.sync x.file).1=d3 at *
       refine Gp ?_
       refine za (λh=>absurd rfl h) (λ_=>?_)
       obtain⟨sv,tv,xs,hx,hS⟩:=eb.iff.1 (SL.b6 hS (t:=.ob (eb lp dp g1)::.pt wb [.int .i64 x.file,.bool x.fresh,.slice a x.b.length c] 318::.ob (b_ dp d3)::X::F) Xi)
       obtain⟨r_,nG,_,_⟩:=vV.xs hx
       have mA:b9 (xs.map dh.pl)=b9 g.bI:=by rw[hx,uE.1]
       have WH:=hw.hd
       have pc:=rS hg.bI
       have Fk:=Ge hg hw
       refine⟨λvs w=>vs=[]/\∃gA dw,dw.map dh.pl=oC g.bI x/\dw.length<=xs.length+1/\SL W (.pt lp (fx gA tv dp g1.base g1.size) 148::fm gA dw::.ob (zf dF dw)::.ob (fV tv g1.dM)::.pt wb [.int .i64 x.file,.bool x.fresh,.slice a x.b.length c] 318::.ob (b_ dp d3)::X::F) w,?_,?_⟩
       ·refine Gp ?_
        unfold oC
        refine y0 (λhf=>?_) (λhf=>?_)
        ·rw[if_pos hf]
         refine Gn λw hS=>?_
         refine Cg (yi lp (fx sv tv dp g1.base g1.size) 148 sv xs rfl r_ (by omega) (by omega)) λw hS=>?_;refine Gm λb w hS=>?_
         rw[mA]at hS
         have iN:=dC.one hS (v:=sv) (t:=228) (sz:=4) (n:=xs.length) (cells:=(xs.map eK).flatten) Xh
         refine y7 (m:=1) (cs:=[.int .i64 x.file,.int .i64 (b9 g.bI+1),.int .i64 0,.slice none 0 0]) hS Xr (iP hS .hd rfl) rfl rfl (by simp[Value.oneCell']) (by omega) (by omega) ?_
         clear hS;intro gA w hS
         have iN:=dC.one hS (v:=gA) .hd
         refine Gn λw hS=>?_
         have hS:=dC.nK (a:=none) (t:=62) (sz:=1) hS
         have hS:=zf.nil (A:=eV) (SL.b6 hS (t:=.ob (dC (.slice none 0 0) 62 1 0 [])::.ob (zf dF xs)::.pt lp (fx gA tv dp g1.base g1.size) 148::.ob (dC gA 228 4 (xs.length+1) ((xs.map eK).flatten++[.int .i64 x.file,.int .i64 (b9 g.bI+1),.int .i64 0,.slice none 0 0]))::.ob (fV tv g1.dM)::.pt wb [.int .i64 x.file,.bool x.fresh,.slice a x.b.length c] 318::.ob (b_ dp d3)::X::F) Xi)
         have hS:=(dF.iff (x:=⟨x.file,b9 g.bI+1,0,[],none,0⟩)).2 (SL.b6 hS (t:=.ob (dC (.slice none 0 0) 62 1 0 [])::.ob (zf eV [])::.ob (zf dF xs)::.pt lp (fx gA tv dp g1.base g1.size) 148::.ob (dC gA 228 4 (xs.length+1) ((xs.map eK).flatten++[.int .i64 x.file,.int .i64 (b9 g.bI+1),.int .i64 0,.slice none 0 0]))::.ob (fV tv g1.dM)::.pt wb [.int .i64 x.file,.bool x.fresh,.slice a x.b.length c] 318::.ob (b_ dp d3)::X::F) Xi)
         have hS:=zf.snoc (SL.b6 hS (t:=.ob (zf dF xs)::.ob (dF ⟨x.file,b9 g.bI+1,0,[],none,0⟩)::.pt lp (fx gA tv dp g1.base g1.size) 148::.ob (dC gA 228 4 (xs.length+1) ((xs.map eK).flatten++[.int .i64 x.file,.int .i64 (b9 g.bI+1),.int .i64 0,.slice none 0 0]))::.ob (fV tv g1.dM)::.pt wb [.int .i64 x.file,.bool x.fresh,.slice a x.b.length c] 318::.ob (b_ dp d3)::X::F) Xi)
         have e1:xs.length+1=(xs++[(⟨x.file,b9 g.bI+1,0,[],none,0⟩:dh)]).length:=by simp
         have e2:(xs.map eK).flatten++[.int .i64 x.file,.int .i64 (b9 g.bI+1),.int .i64 0,.slice none 0 0]=((xs++[(⟨x.file,b9 g.bI+1,0,[],none,0⟩:dh)]).map eK).flatten:=by simp[eK,dh.lv]
         rw[e1,e2]at hS
         refine⟨gA,xs++[⟨x.file,b9 g.bI+1,0,[],none,0⟩],?_,by simp,aR hS⟩
         rw[List.map_append,hx,uE.1];rfl
        ·rw[if_neg (by rw[hf];decide)]
         exact⟨rfl,sv,xs,by rw[hx,uE.1],by omega,aR hS⟩
       ·clear hS r_ mA
        rintro w ⟨-,gA,dw,ju,uA,hS⟩
        obtain⟨A,s,hA⟩:=Cz hw
        rw[wy _ _ _ hA]
        have hle:0<dw.length:=by
         have:=congrArg List.length ju
         rw[hA]at this;simp at this;omega
        have hj:dw.length-1<dw.length:=by omega
        have pq:dw=dw.take (dw.length-1)++[dw[dw.length-1]]:=by
         conv=>lhs;rw[<- List.take_append_drop (dw.length-1) dw]
         rw[List.drop_eq_getElem_cons hj,List.drop_eq_nil_of_le (by omega)]
        have ED:A=(dw.take (dw.length-1)).map dh.pl/\s=(dw[dw.length-1]).pl:=by
         rw[pq,List.map_append]at ju
         rw[hA]at ju
         have:=List.append_inj' ju rfl
         exact⟨this.1.symm,by simpa using this.2.symm⟩
        obtain⟨ui,po⟩:=ED
        subst ui po
        have Ai:=Fk (dw[dw.length-1]).pl (by rw[hA];simp)
        have z1:=Ai.sz
        have z2:=Ai.ln
        have hS:=zf.take (t:=dw.length-1) (SL.b6 hS (t:=.ob (zf dF dw)::fm gA dw::.pt lp (fx gA tv dp g1.base g1.size) 148::.ob (fV tv g1.dM)::.pt wb [.int .i64 x.file,.bool x.fresh,.slice a x.b.length c] 318::.ob (b_ dp d3)::X::F) Xi) (List.getElem?_eq_getElem hj)
        have hS:=dF.iff.1 hS
        obtain⟨rb,ro,rc,AA,BB,rfl,vK,hS,jg⟩:=fm.at (SL.b6 hS (t:=fm gA dw::.ob (dC (dw[dw.length-1]).lv 62 1 (dw[dw.length-1]).es.length (eO (dw[dw.length-1]).es))::.ob (zf eV (dw[dw.length-1]).es)::.ob (zf dF (dw.eraseIdx (dw.length-1)))::.pt lp (fx gA tv dp g1.base g1.size) 148::.ob (fV tv g1.dM)::.pt wb [.int .i64 x.file,.bool x.fresh,.slice a x.b.length c] 318::.ob (b_ dp d3)::X::F) Xi) hj
        generalize Aq:dw[dw.length-1]=x0 at *
        have z1:x0.size<=M:=z1
        have z2:x0.es.length<=M:=by simpa [dh.pl,oR] using z2
        refine Gn λw hS=>?_
        have e:((dw.length:Nat):Int)-1=((dw.length-1:Nat):Int):=by omega
        rw[e]
        refine zB hj ?_
        rw[<- vK]
        refine Gn λw hS=>?_
        refine zX hS Xh (nN (i:=2) (u:=.int .i64 x0.size) rfl) ?_
        refine Gp ?_
        refine y2 hS Xu (nN (i:=2) (u:=.int .i64 x0.size) rfl) rfl ?_
        clear hS;intro w hS
        rw[CD (by rw[sw];decide)]at hS
        have e5:(eK x0).set 2 (.int .i64 ((x0.size+x.b.length:Nat):Int))=[.int .i64 x0.file,.int .i64 x0.first,.int .i64 ((x0.size+x.b.length:Nat):Int),x0.lv]:=rfl
        rw[e5]at hS
        refine Gn λw hS=>?_
        refine zX hS Xh (nN (i:=3) (u:=x0.lv) rfl) ?_
        refine Zq (cs:=p.map cI) hS (λw' c gx=>hv.src gx (.tl Xh)) (by simp) (j3 _) (by omega) ?_
        clear hS;intro u w hS _
        have hu:=hS.kL .hd
        obtain⟨ua,uc,eu,_⟩:=a7.at hS .hd
        subst eu
        refine zX hS Xh (nN (i:=3) (u:=x0.lv) rfl) ?_
        refine Gm λb w hS=>?_
        refine zX hS Xh (nN (i:=3) (u:=x0.lv) rfl) ?_
        refine Gp ?_
        refine y7 (t:=62) (sz:=1) (n:=x0.es.length) (cells:=eO x0.es) (m:=1) (cs:=[.slice ua p.length uc]) hS Xr (iP hS .hd rfl) rfl rfl (by simp[Value.oneCell']) (by omega) (by omega) ?_
        clear hS;intro v' w hS
        have iN:=dC.one hS (v:=v') .hd
        obtain⟨a',c',ev,_⟩:=dC.at hS (v:=v') .hd
        subst ev
        refine Gp ?_
        refine y2 hS Xu (nN (i:=3) (u:=x0.lv) rfl) iN ?_
        clear hS;intro w hS
        rw[CD (by show 3<4;decide)]at hS
        have e6:([.int .i64 x0.file,.int .i64 x0.first,.int .i64 ((x0.size+x.b.length:Nat):Int),x0.lv]:List Value).set 3 (.slice a' (x0.es.length+1) c')=eK ⟨x0.file,x0.first,x0.size+x.b.length,x0.es++[(.slice ua p.length uc,p)],a',c'⟩:=by
         simp[eK,dh.lv]
        rw[e6]at hS
        let y:dh:=⟨x0.file,x0.first,x0.size+x.b.length,x0.es++[(.slice ua p.length uc,p)],a',c'⟩
        have jv:(dw.set (dw.length-1) y).map dh.pl=(dw.take (dw.length-1)).map dh.pl++[oO x0.pl x.b.length p]:=by
         rw[List.set_eq_take_append_cons_drop,if_pos hj,List.drop_eq_nil_of_le (by omega),List.map_append]
         congr 1
         simp[y,dh.pl,oO,j5]
        have Ac:=(GA hg hw).1
        rw[wy _ _ _ hA,<- jv]at Ac
        have hS:=jg y w _ (SL.b6 hS (t:=.pt rb (AA++(eK y++BB)) 228::.ob (dC (.slice a' (x0.es.length+1) c') 62 1 (x0.es.length+1) (eO x0.es++[.slice ua p.length uc]))::.ob (a7 (.slice ua p.length uc) 5 1 p.length (p.map cI))::.ob (zf eV x0.es)::.ob (zf dF (dw.eraseIdx (dw.length-1)))::.pt lp (fx (.slice (some ⟨rb,ro,none⟩) dw.length rc) tv dp g1.base g1.size) 148::.ob (fV tv g1.dM)::.ob (b_ dp d3)::X::F) Xi)
        have hS:=SL.b6 hS (t:=.ob (a7 (.slice ua p.length uc) 5 1 p.length (p.map cI))::.ob (zf eV x0.es)::.ob (dC (.slice a' (x0.es.length+1) c') 62 1 (x0.es.length+1) (eO x0.es++[.slice ua p.length uc]))::.ob (zf dF (dw.eraseIdx (dw.length-1)))::fm (.slice (some ⟨rb,ro,none⟩) dw.length rc) (dw.set (dw.length-1) y)::.pt lp (fx (.slice (some ⟨rb,ro,none⟩) dw.length rc) tv dp g1.base g1.size) 148::.ob (fV tv g1.dM)::.ob (b_ dp d3)::X::F) Xi
        have hS:SL W (.ob (eV (.slice ua p.length uc,p))::.ob (zf eV x0.es)::.ob (dC (.slice a' (x0.es.length+1) c') 62 1 (x0.es.length+1) (eO x0.es++[.slice ua p.length uc]))::.ob (zf dF (dw.eraseIdx (dw.length-1)))::fm (.slice (some ⟨rb,ro,none⟩) dw.length rc) (dw.set (dw.length-1) y)::.pt lp (fx (.slice (some ⟨rb,ro,none⟩) dw.length rc) tv dp g1.base g1.size) 148::.ob (fV tv g1.dM)::.ob (b_ dp d3)::X::F) w:=hS
        have hS:=zf.snoc (hS.perm (.swap _ _ _))
        have e7:x0.es.length+1=y.es.length:=by simp[y]
        have e8:eO x0.es++[.slice ua p.length uc]=eO y.es:=by simp[y,eO]
        rw[e7,e8]at hS
        have hS:=(dF.iff (x:=y)).2 (SL.b6 hS (t:=.ob (dC (.slice a' y.es.length c') 62 1 y.es.length (eO y.es))::.ob (zf eV (x0.es++[(.slice ua p.length uc,p)]))::.ob (zf dF (dw.eraseIdx (dw.length-1)))::fm (.slice (some ⟨rb,ro,none⟩) dw.length rc) (dw.set (dw.length-1) y)::.pt lp (fx (.slice (some ⟨rb,ro,none⟩) dw.length rc) tv dp g1.base g1.size) 148::.ob (fV tv g1.dM)::.ob (b_ dp d3)::X::F) Xi)
        have hS:=zf.put hS hj
        refine Gp ?_
        refine Cg (yi lp (fx (.slice (some ⟨rb,ro,none⟩) dw.length rc) tv dp g1.base g1.size) 148 (.slice (some ⟨rb,ro,none⟩) dw.length rc) (dw.set (dw.length-1) y) rfl Ac (by omega) (by rw[List.length_set];omega)) λw hS=>?_
        rw[jv]
        have hS:=(eb.iff (g:={bI:=(dw.take (dw.length-1)).map dh.pl++[oO x0.pl x.b.length p],base:=g1.base,size:=g1.size,dM:=g1.dM})).2 ⟨_,tv,dw.set (dw.length-1) y,jv,SL.b6 hS (t:=.pt lp (fx (.slice (some ⟨rb,ro,none⟩) dw.length rc) tv dp g1.base g1.size) 148::fm (.slice (some ⟨rb,ro,none⟩) dw.length rc) (dw.set (dw.length-1) y)::.ob (zf dF (dw.set (dw.length-1) y))::.ob (fV tv g1.dM)::.ob (b_ dp d3)::X::F) Xi⟩
        exact dq hS
      ·have hG:=r6 ha hs
       subst hG
       refine Gp ?_
       refine za (λ_=>?_) (λh=>absurd hs h)
       (exact dq hS)
    ·have hG:=N6 ha
     subst hG
     refine⟨λvs w=>vs=[.int .i64 (d1.append x.file x.b).2]/\SL W (.ob (eb lp dp g1)::.ob (b_ dp (d1.append x.file x.b).1)::X::F) w,?_,?_⟩
     ·refine Gp ?_
      refine za (λh=>absurd h ha) (λ_=>⟨rfl,aR hS⟩)
     ·clear hS
      rintro v7 w ⟨eY,hS⟩
      cases eY
      refine Gp ?_
      refine za (λ_=>?_) (λh=>absurd ha h)
      (exact dq hS)
  ·rw[LY fo hm]
   refine⟨λvs w=>vs=[.int .i64 (dI g d).2]/\SL W (.ob (eb lp dp (dI g d).1.1)::.ob (b_ dp (dI g d).1.2)::X::F) w,?_,?_⟩
   ·refine Gp ?_
    refine za (λh=>absurd h hm) (λ_=>⟨rfl,aR hS⟩)
   ·clear hS
    rintro v7 w ⟨eY,hS⟩
    cases eY
    refine⟨λvs w=>vs=[.int .i64 (dI g d).2]/\SL W (.ob (eb lp dp (dI g d).1.1)::.ob (b_ dp (dI g d).1.2)::X::F) w,?_,?_⟩
    ·refine Gp ?_
     refine za (λh=>absurd h hm) (λ_=>⟨rfl,hS⟩)
    ·clear hS
     rintro v7 w ⟨eY,hS⟩
     cases eY
     refine Gp ?_
     refine za (λ_=>?_) (λh=>absurd hm h)
     (exact dq hS)
theorem Y0(lp dp:Nat)(g:dJ)(d:DS){M N:Nat}(Ob:0<=g.base)(rP:g.base<=12288)(b5:d.Ok N)(hR:d.R.length<=100000):
  SP 137 [.pointer (some ⟨lp,0,none⟩)] [.ob (eb lp dp g),.ob (b_ dp d)] (λv post=>post=[.ob (a7 v 3 1 (fg g.base d.R).length ((fg g.base d.R).map (Value.int .i64))),.ob (eb lp dp g),.ob (b_ dp d)]):=by
 intro W F w hS;apply bw7;delta Ij aF bw ai bF;(try simp only[app]at hS)
 obtain⟨sv,tv,xs,hx,hS⟩:=eb.iff.1 hS
 refine Gp ?_
 refine Cc (YZ dp d N b5 hR) ?_;clear hS
 rintro fl post rfl w hS
 try simp only[app]at hS
 refine zr hS (t:=3) (sz:=1) (n:=d.R.length) (cells:=d.R.map λx=>.int .i64 x.id) Xh ?_
 have hS:SL W (.ob (a7 (.slice none 0 0) 3 1 (fg g.base (d.R.take 0)).length ((fg g.base (d.R.take 0)).map (Value.int .i64)))::_) w:=a7.nil hS
 refine⟨λvs w=>∃(u:Value) (i:Nat),i<=d.R.length/\vs=[u,.int .i64 i]/\SL W (.ob (a7 u 3 1 (fg g.base (d.R.take i)).length ((fg g.base (d.R.take i)).map (Value.int .i64)))::.pt lp (fx sv tv dp g.base g.size) 148::fm sv xs::.ob (zf dF xs)::.ob (fV tv g.dM)::.ob (b_ dp d)::.ob (a7 fl 3 1 d.R.length (d.R.map λx=>.int .i64 x.id))::F) w,
  λvs _=>match vs with|[_,.int _ i]=>(d.R.length-i).toNat|_=>0,⟨.slice none 0 0,0,by omega,rfl,aR hS⟩,?_⟩
 clear hS
 rintro v3 lu w ⟨u,i,hi,eY,hS⟩
 cases eY
 refine bR (λh=>?_) (λh=>?_)
 ·have bW:i<d.R.length:=by omega
  have hu:(d.R.map λx=>Value.int .i64 x.id)[i]?=some (.int .i64 d.R[i].id):=by simp[bW]
  have b8h:(fg g.base (d.R.take i)).length<=100000:=by
   unfold fg
   have:=List.length_filter_le (λf=>decide (g.base<=f/\f<g.base+4096)) ((d.R.take i).map PF.id)
   rw[List.length_map,List.length_take]at this
   omega
  have iy:fg g.base (d.R.take (i+1))=fg g.base (d.R.take i)++if g.base<=d.R[i].id/\d.R[i].id<g.base+4096 then [d.R[i].id] else []:=by
   unfold fg
   rw[List.take_add_one,List.getElem?_eq_getElem bW,List.map_append,List.filter_append]
   congr 1
   simp only[Option.toList_some,List.map_cons,List.map_nil,List.filter_cons,List.filter_nil,decide_eq_true_eq]
  have p9:∀{w:World} {u:Value},(fg g.base (d.R.take (i+1))=fg g.base (d.R.take i))->SL W (.ob (a7 u 3 1 (fg g.base (d.R.take i)).length ((fg g.base (d.R.take i)).map (Value.int .i64)))::.pt lp (fx sv tv dp g.base g.size) 148::fm sv xs::.ob (zf dF xs)::.ob (fV tv g.dM)::.ob (b_ dp d)::.ob (a7 fl 3 1 d.R.length (d.R.map λx=>.int .i64 x.id))::F) w ->
    (∃(u':Value) (i':Nat),i'<=d.R.length/\[u,Value.int .i64 ((i+1:Nat):Int)]=[u',.int .i64 i']/\SL W (.ob (a7 u' 3 1 (fg g.base (d.R.take i')).length ((fg g.base (d.R.take i')).map (Value.int .i64)))::.pt lp (fx sv tv dp g.base g.size) 148::fm sv xs::.ob (zf dF xs)::.ob (fV tv g.dM)::.ob (b_ dp d)::.ob (a7 fl 3 1 d.R.length (d.R.map λx=>.int .i64 x.id))::F) w):=λe h=>⟨_,i+1,by omega,rfl,by rw[e];exact h⟩
  refine z7 hS (t:=3) Xh bW hu ?_
  refine bR (λh1=>?_) (λh1=>?_)
  ·refine bR (λh2=>?_) (λh2=>?_)
   ·rw[if_pos ⟨h1,h2⟩]at iy
    refine Gm λb w hS=>?_
    refine zx (m:=1) (cs:=[.int .i64 d.R[i].id]) hS Xr (iP hS .hd rfl) rfl rfl (by simp[Value.oneCell']) (by omega) (by omega) ?_
    clear hS;intro v' w hS
    have e1:(fg g.base (d.R.take i)).length+1=(fg g.base (d.R.take (i+1))).length:=by rw[iy,List.length_append];rfl
    have e2:(fg g.base (d.R.take i)).map (Value.int .i64)++[Value.int .i64 d.R[i].id]=(fg g.base (d.R.take (i+1))).map (Value.int .i64):=by rw[iy,List.map_append];rfl
    rw[e1,e2]at hS
    refine Gp ?_
    exact⟨⟨v',i+1,by omega,rfl,aR hS⟩,by dsimp only;omega⟩
   ·rw[if_neg (by omega),List.append_nil]at iy
    refine Gp ?_
    exact⟨p9 iy hS,by dsimp only;omega⟩
  ·rw[if_neg (by omega),List.append_nil]at iy
   refine Gp ?_
   exact⟨p9 iy hS,by dsimp only;omega⟩
 ·have iW:i=d.R.length:=by omega
  subst iW
  rw[List.take_length]at hS
  have hS:=(eb.iff (g:=g)).2 ⟨sv,tv,xs,hx,SL.b6 hS (t:=.pt lp (fx sv tv dp g.base g.size) 148::fm sv xs::.ob (zf dF xs)::.ob (fV tv g.dM)::.ob (a7 v3 3 1 (fg g.base d.R).length ((fg g.base d.R).map (Value.int .i64)))::.ob (b_ dp d)::F) Xi⟩
  exact⟨_,rfl,aR hS⟩
theorem Sk(f:Nat):∀b:List UInt8,b.length<f->(∀p∈(ic b).1,p.length<=1048576)/\(ic b).1.length<=(ic b).2:=by
 induction f with
 | zero=>intro b h;omega
 | succ f ih=>
  intro b hb
  cases h:gN b with
  | error e=>rw[AN h];exact⟨by simp,by simp⟩
  | ok x=>
   obtain⟨p,n⟩:=x
   have h2:=u0 h
   obtain⟨i1,i2⟩:=ih (b.drop n) (by rw[List.length_drop];omega)
   rw[CN h]
   refine⟨λq hq=>?_,?_⟩
   ·rcases List.mem_cons.1 hq with rfl|hq
    ·exact h2.2.2.1
    ·exact i1 q hq
   ·show (p::(ic (b.drop n)).1).length<=n+(ic (b.drop n)).2
    rw[List.length_cons];omega
theorem GH{q:List UInt8}{f:Int}{l:List (List UInt8)}{n:Nat}(h:fp q=some (f,l,n)):1<=f/\f<=1099511627776/\n<=q.length/\l.length<=q.length/\∀p∈l,p.length<=1048576:=by
 obtain⟨h1,h2⟩:=Sk (q.length+1) q (by omega)
 have h3:=a7m (q.length+1) q (by omega)
 unfold fp at h
 split at h
 ·cases h
 ·rename_i hd l' hs
  rw[hs]at h1 h2
  cases hh:l6 hd with
  | none=>rw[hh]at h;cases h
  | some k=>
   rw[hh]at h
   cases h
   have hk:1<=f/\f<=1099511627776:=by
    unfold l6 at hh
    split at hh
    ·unfold vO at hh
     split at hh
     ·split at hh
      ·rename_i hc
       cases hh;exact⟨hc.2.1,hc.2.2⟩
      ·cases hh
     ·cases hh
    ·cases hh
   refine⟨hk.1,hk.2,h3,?_,λp hp=>h1 p (.tail _ hp)⟩
   rw[List.length_cons]at h2;omega
def nY(R:List PF)(base:Int)(N:Nat):Prop:=∀x∈R,base<=x.id->x.id<base+4096->x.b.length<=N
theorem nY.all{R:List PF}{N:Nat}(h:∀x∈R,x.b.length<=N)(base:Int):nY R base N:=λx hx _ _=>h x hx
theorem nY.at_{R:List PF}{base:Int}{N:Nat}(h:nY R base N){f:Int}(hf:base<=f/\f<base+4096):∀x,dP PF.id R f=some x->x.b.length<=N:=λx hx=>by
 obtain⟨h1,h2⟩:=pV hx
 have h2:x.id=f:=h2
 exact h x h1 (by omega) (by omega)
theorem F3{L:List dz}{R:List PF}{f:Int}{last:Bool}{M N:Nat}(hR:∀x,dP PF.id R f=some x->x.b.length<=N)(hN:N<=M)(f0:0<=f)(f1:f<=100000)(hL:∀s∈L,jA s M):(∀s∈(iX L R f last).2,jA s M)/\(iX L R f last).2.length<=L.length+1:=by
 have hq:(((dP PF.id R f).map PF.b).getD []).length<=N:=by
  cases hg:dP PF.id R f with
  | none=>simp
  | some x=>exact hR x hg
 unfold iX
 generalize ((dP PF.id R f).map PF.b).getD []=q at *
 simp only
 cases hr:fp q with
 | none=>exact⟨hL,by simp⟩
 | some y=>
  obtain⟨k,l,n⟩:=y
  have:=GH hr
  simp only
  split
  ·exact⟨hL,by simp⟩
  ·refine⟨λs hs=>?_,by simp⟩
   rcases List.mem_append.1 hs with hs|hs
   ·exact hL s hs
   ·rw[List.mem_singleton.1 hs]
    exact⟨f0,f1,this.1,this.2.1,by show n<=M;omega,by show l.length<=M;omega,this.2.2.2.2⟩
theorem qG(lp dp:Nat)(g:dJ)(d:DS)(f:Int)(last:Bool){M B N:Nat}(hg:g.Ok M)(hM:M<=1000000000000)(b5:d.Ok B)(hB:B<=140737488355328)(Wu:∀x,dP PF.id d.R f=some x->x.b.length<=N)(hN:N<=10000000000):
  SP 138 [.pointer (some ⟨lp,0,none⟩),.int .i64 f,.bool last] [.ob (eb lp dp g),.ob (b_ dp d)] (dj (.tuple #[.bool (iX g.bI d.R f last).1.1,.bool (iX g.bI d.R f last).1.2]) [.ob (eb lp dp {g with bI:=(iX g.bI d.R f last).2}),.ob (b_ dp d)]):=by
 intro W F w hS;apply bw8;delta Ik aF bw a_ cF df dc ai bF;(try simp only[app]at hS)
 obtain⟨sv,tv,xs,hx,hS⟩:=eb.iff.1 hS
 obtain⟨r_,nG,OC,xP⟩:=hg.xs hx
 have mA:b9 (xs.map dh.pl)=b9 g.bI:=by rw[hx]
 have uw:g.bI.length=xs.length:=by rw[<- hx,List.length_map]
 refine Gp ?_
 refine Cc (Z5 dp d B b5 hB f) ?_;clear hS
 rintro r post hQ w hS
 have hq:(((dP PF.id d.R f).map PF.b).getD []).length<=N:=by
  cases hg:dP PF.id d.R f with
  | none=>simp
  | some x=>exact Wu x hg
 have mW:iX g.bI d.R f last=match fp (((dP PF.id d.R f).map PF.b).getD []) with
  | none=>((false,last),g.bI)
  | some (first,l,n)=>if (last=false/\(n≠(((dP PF.id d.R f).map PF.b).getD []).length\/l.length=0))\/(0<g.bI.length/\first≠b9 g.bI+1)\/1099511627776<first+l.length-1 then ((true,false),g.bI)
   else ((true,true),g.bI++[⟨f,first,n,l⟩]):=rfl
 have dE:∃(X:Chunk) (a:Option Addr) (c:Nat) (bb:Bool),r= .tuple #[.slice a (((dP PF.id d.R f).map PF.b).getD []).length c,.bool bb]/\dN X (.slice a (((dP PF.id d.R f).map PF.b).getD []).length c) (((dP PF.id d.R f).map PF.b).getD [])/\SL W (X::.ob (b_ dp d)::.pt lp (fx sv tv dp g.base g.size) 148::fm sv xs::.ob (zf dF xs)::.ob (fV tv g.dM)::F) w:=by
  unfold wY at hQ
  cases hg:dP PF.id d.R f with
  | none=>
   rw[hg]at hQ
   obtain⟨rfl,rfl⟩:=hQ
   try simp only[app]at hS
   exact⟨.mem aW.emp,none,0,false,rfl,dN.nil,SL.b6 hS.F8 Xi⟩
  | some x=>
   rw[hg]at hQ
   obtain⟨u,rfl,rfl⟩:=hQ
   try simp only[app]at hS
   obtain⟨a,c,rfl,_⟩:=a7.at hS (v:=u) (t:=5) (sz:=1) (n:=x.b.length) (cells:=x.b.map cI) Xh
   exact⟨.ob (a7 (.slice a x.b.length c) 5 1 x.b.length (x.b.map cI)),a,c,true,rfl,dN.own,aR hS⟩
 clear hS hQ
 obtain⟨X,a,c,bb,rfl,hX,hS⟩:=dE
 rw[mW]
 clear mW
 generalize ((dP PF.id d.R f).map PF.b).getD []=q at *
 refine Gp ?_
 refine Cc (YT X _ q hX (by omega)) ?_;clear hS
 rintro r post hQ w hS
 unfold rB at hQ
 cases hr:fp q with
 | none=>
  rw[hr]at hQ
  obtain⟨rfl,rfl⟩:=hQ
  (try simp only[app]at hS);refine Gp ?_
  refine za (λ_=>?_) (λh=>absurd (by decide) h)
  have hS:=(eb.iff (g:=g)).2 ⟨sv,tv,xs,hx,SL.b6 hS (t:=.pt lp (fx sv tv dp g.base g.size) 148::fm sv xs::.ob (zf dF xs)::.ob (fV tv g.dM)::.ob (b_ dp d)::F) Xi⟩
  exact dq hS
 | some y=>
  obtain⟨first,l,n⟩:=y
  have rY:=GH hr
  rw[hr]at hQ
  obtain⟨u,es,he,rfl,rfl⟩:=hQ
  try simp only[app]at hS
  have mz:l.length=es.length:=by rw[<- he,oR]
  obtain⟨ua,uc,rfl,_⟩:=dC.at hS (v:=u) .hd
  obtain⟨r1,r2,r3,r4,r5⟩:=rY
  simp only[mz,uw]
  have b80:jA (dh.pl ⟨f,first,n,es,ua,uc⟩) M\/True:=.inr trivial
  refine Gp ?_
  refine za (λh=>absurd rfl h) (λ_=>?_)
  refine Gm λb w hS=>?_
  obtain⟨sb,rfl⟩:∃k,k=b:=⟨b,rfl⟩
  obtain⟨I,hI⟩:∃I:List Value->World->Prop,I=λvs w=>∃bad:Bool,vs=[.bool bad]/\(bad=true↔((last=false/\(n≠q.length\/es.length=0))\/(0<xs.length/\first≠b9 g.bI+1)\/1099511627776<first+es.length-1)) /\
   SL W (.pt sb [.int .i64 f,.int .i64 first,.int .i64 n,.slice ua es.length uc] 228::.ob (dC (.slice ua es.length uc) 62 1 es.length (eO es))::.ob (zf eV es)::.ob (b_ dp d)::.pt lp (fx sv tv dp g.base g.size) 148::fm sv xs::.ob (zf dF xs)::.ob (fV tv g.dM)::F) w:=⟨_,rfl⟩
  refine⟨I,?_,?_⟩
  ·have jG:∀(w:World) (K:Value->World->Prop),¬(last=false/\(n≠q.length\/es.length=0))->SL W (.pt sb [.int .i64 f,.int .i64 first,.int .i64 n,.slice ua es.length uc] 228::.ob (dC (.slice ua es.length uc) 62 1 es.length (eO es))::.ob (zf eV es)::.ob (b_ dp d)::.pt lp (fx sv tv dp g.base g.size) 148::fm sv xs::.ob (zf dF xs)::.ob (fV tv g.dM)::F) w ->
     (∀(bad:Bool) w,(bad=true↔((last=false/\(n≠q.length\/es.length=0))\/(0<xs.length/\first≠b9 g.bI+1)\/1099511627776<first+es.length-1))->SL W (.pt sb [.int .i64 f,.int .i64 first,.int .i64 n,.slice ua es.length uc] 228::.ob (dC (.slice ua es.length uc) 62 1 es.length (eO es))::.ob (zf eV es)::.ob (b_ dp d)::.pt lp (fx sv tv dp g.base g.size) 148::fm sv xs::.ob (zf dF xs)::.ob (fV tv g.dM)::F) w->K (.bool bad) w) ->
     (YW (.pointer (some ⟨lp,0,none⟩)) λC3=>zu 0 C3 λv55=>zu 0 v55 λv56=>cR v56 w λv57=>zd v57 λS4=>zc .gtr S4 (.int .i64 0) λS5=>
      dO S5
      (YW (.pointer (some ⟨lp,0,none⟩)) λv63=>zu 0 v63 λv64=>aw 69 [v64] w λHf Hj=>zc .add Hf (.int .i64 1) λv66=>zc .neq (.int .i64 first) v66 λHg=>
       dO Hg (K (.bool true) Hj)
       (zj 4 (.pointer (some ⟨sb,0,none⟩)) Hj λv71=>aw 152 [v71] Hj λv72 w_6=>zc .sub v72 (.int .i64 1) λv73=>zc .gtr v73 (.int .i64 1099511627776) λv74=>K v74 w_6))
      (zj 4 (.pointer (some ⟨sb,0,none⟩)) w λa_8=>aw 152 [a_8] w λbwa Hk=>zc .sub bwa (.int .i64 1) λbwc=>zc .gtr bwc (.int .i64 1099511627776) λbwf=>K bwf Hk)):=by
    intro w K hn hS hK
    clear bb
    refine Gp ?_
    refine zT hS (v:=sv) (t:=228) (sz:=4) (n:=xs.length) (cells:=(xs.map eK).flatten) Xh ?_
    refine bR (λh1=>?_) (λh1=>?_)
    ·refine Gp ?_
     refine Cg (yi lp (fx sv tv dp g.base g.size) 148 sv xs rfl r_ (by omega) (by omega)) λw hS=>?_
     rw[mA]
     refine za (λh2=>?_) (λh2=>?_)
     ·refine hK true _ ⟨λ_=>.inr (.inl ⟨by omega,by omega⟩),λ_=>rfl⟩ (aR hS)
     ·refine Gp ?_
      refine Cg (yU f first n ua es.length uc (by omega) (by omega)) λw hS=>?_
      refine hK _ _ ⟨λh=>.inr (.inr (by simpa using h)),λh=>?_⟩ (aR hS)
      rcases h with h|h|h
      ·exact absurd h hn
      ·omega
      ·simpa using h
    ·refine Gp ?_
     refine Cg (yU f first n ua es.length uc (by omega) (by omega)) λw hS=>?_
     refine hK _ _ ⟨λh=>.inr (.inr (by simpa using h)),λh=>?_⟩ (aR hS)
     rcases h with h|h|h
     ·exact absurd h hn
     ·omega
     ·simpa using h
   cases last with
   | false=>
    refine zO ?_
    refine zw ?_
    refine bR (λh1=>?_) (λh1=>?_)
    ·rw[hI];exact⟨true,rfl,⟨λ_=>.inl ⟨rfl,.inl (by omega)⟩,λ_=>rfl⟩,aR hS⟩
    ·refine bR (λh2=>?_) (λh2=>?_)
     ·rw[hI];exact⟨true,rfl,⟨λ_=>.inl ⟨rfl,.inr (by omega)⟩,λ_=>rfl⟩,aR hS⟩
     ·exact jG w (λv w=>I [v] w) (by omega) (aR hS) (λbad w hb h=>by rw[hI];exact⟨bad,rfl,hb,h⟩)
   | true=>
    refine zO ?_
    refine zq ?_
    exact jG w (λv w=>I [v] w) (by simp) (aR hS) (λbad w hb h=>by rw[hI];exact⟨bad,rfl,hb,h⟩)
  ·clear hS
   rw[hI]
   rintro v75 w ⟨bad,eY,dK,hS⟩
   cases eY
   cases bad with
   | true=>
    refine zw ?_
    rw[if_pos (dK.1 rfl)]
    have hS:=(eb.iff (g:=g)).2 ⟨sv,tv,xs,hx,SL.b6 hS (t:=.pt lp (fx sv tv dp g.base g.size) 148::fm sv xs::.ob (zf dF xs)::.ob (fV tv g.dM)::.ob (b_ dp d)::F) Xi⟩
    exact dq hS
   | false=>
    refine zq ?_
    rw[if_neg (λh=>by have:=dK.2 h;cases this)]
    refine Gm λb w hS=>?_
    refine y7 (t:=228) (sz:=4) (n:=xs.length) (cells:=(xs.map eK).flatten) (m:=1) (cs:=[.int .i64 f,.int .i64 first,.int .i64 n,.slice ua es.length uc]) hS Xr (iP hS .hd rfl) rfl rfl (by simp[Value.oneCell']) (by omega) (by omega) ?_
    clear hS;intro gA w hS
    have iN:=dC.one hS (v:=gA) .hd
    refine Gn λw hS=>?_
    have hS:=(dF.iff (x:=⟨f,first,n,es,ua,uc⟩)).2 (SL.b6 hS (t:=.ob (dC (.slice ua es.length uc) 62 1 es.length (eO es))::.ob (zf eV es)::.ob (zf dF xs)::.ob (b_ dp d)::.pt lp (fx gA tv dp g.base g.size) 148::.ob (dC gA 228 4 (xs.length+1) ((xs.map eK).flatten++[.int .i64 f,.int .i64 first,.int .i64 n,.slice ua es.length uc]))::.ob (fV tv g.dM)::F) Xi)
    have hS:=zf.snoc (hS.b6 (t:=.ob (zf dF xs)::.ob (dF ⟨f,first,n,es,ua,uc⟩)::.ob (b_ dp d)::.pt lp (fx gA tv dp g.base g.size) 148::.ob (dC gA 228 4 (xs.length+1) ((xs.map eK).flatten++[.int .i64 f,.int .i64 first,.int .i64 n,.slice ua es.length uc]))::.ob (fV tv g.dM)::F) Xi)
    have e1:xs.length+1=(xs++[(⟨f,first,n,es,ua,uc⟩:dh)]).length:=by simp
    have e2:(xs.map eK).flatten++[.int .i64 f,.int .i64 first,.int .i64 n,.slice ua es.length uc]=((xs++[(⟨f,first,n,es,ua,uc⟩:dh)]).map eK).flatten:=by simp[eK,dh.lv]
    rw[e1,e2]at hS
    have jv:(xs++[(⟨f,first,n,es,ua,uc⟩:dh)]).map dh.pl=g.bI++[⟨f,first,n,l⟩]:=by
     rw[List.map_append,hx];simp[dh.pl,he]
    have hS:=(eb.iff (g:={g with bI:=g.bI++[⟨f,first,n,l⟩]})).2 ⟨gA,tv,xs++[⟨f,first,n,es,ua,uc⟩],jv,SL.b6 hS (t:=.pt lp (fx gA tv dp g.base g.size) 148::fm gA (xs++[⟨f,first,n,es,ua,uc⟩])::.ob (zf dF (xs++[⟨f,first,n,es,ua,uc⟩]))::.ob (fV tv g.dM)::.ob (b_ dp d)::F) Xi⟩
    exact dq hS
theorem YX(lp dp:Nat)(g:dJ)(d:DS)(iv:Value)(ids:List Int)(whole:Bool){M N:Nat}(hg:g.Ok M)(hM:M<=1000000000000)(b5:d.Ok N)(hN:N<=140737488355328)(eJ:d.ops<=100000)(dV:whole=true->ids≠[]->g.bI≠[])(bW:ids.length<=100000):
  SP 139 [.pointer (some ⟨lp,0,none⟩),iv,.bool whole] [.ob (eb lp dp g),.ob (b_ dp d),.ob (a7 iv 3 1 ids.length (ids.map (Value.int .i64)))]
   (dj (.int .i64 (hY g.bI d ids whole).2) [.ob (eb lp dp g),.ob (b_ dp (hY g.bI d ids whole).1),.ob (a7 iv 3 1 ids.length (ids.map (Value.int .i64)))]):=by
 intro W F w hS;apply bw9;delta Il aF bw a_ df dc ai;(try simp only[app]at hS)
 obtain⟨sv,tv,xs,hx,hS⟩:=eb.iff.1 hS
 obtain⟨r_,nG,_,_⟩:=hg.xs hx
 have ig:∀{w:World} {d':DS},SL W (.pt lp (fx sv tv dp g.base g.size) 148::fm sv xs::.ob (zf dF xs)::.ob (fV tv g.dM)::.ob (b_ dp d')::.ob (a7 iv 3 1 ids.length (ids.map (Value.int .i64)))::F) w->SL W (.ob (eb lp dp g)::.ob (b_ dp d')::.ob (a7 iv 3 1 ids.length (ids.map (Value.int .i64)))::F) w:=λh=>(eb.iff (g:=g)).2 ⟨_,tv,_,hx,h⟩
 refine zr hS (v:=iv) (t:=3) (sz:=1) (n:=ids.length) (cells:=ids.map (Value.int .i64)) Xh ?_
 refine bR (λh=>?_) (λh=>?_)
 ·have:ids=[]:=List.eq_nil_of_length_eq_zero (by omega)
  subst this
  have hS:=ig (aR hS)
  exact⟨_,⟨rfl,rfl⟩,hS⟩
 ·have hj:ids.length-1<ids.length:=by omega
  have uw:ids.getLast?=some (ids[ids.length-1]'hj):=by rw[List.getLast?_eq_getElem?,List.getElem?_eq_getElem hj]
  have W3:ids≠[]:=λe=>by rw[e]at h;simp at h
  have hu:(ids.map (Value.int .i64))[ids.length-1]?=some (.int .i64 (ids[ids.length-1]'hj)):=by simp[hj]
  generalize (ids[ids.length-1]'hj)=f at *
  refine zr hS (v:=iv) (t:=3) (sz:=1) (n:=ids.length) (cells:=ids.map (Value.int .i64)) Xh ?_
  refine Gp ?_
  have e:((ids.length:Nat):Int)-1=((ids.length-1:Nat):Int):=by omega
  rw[e]
  refine z7 hS (v:=iv) (t:=3) Xh hj hu ?_
  cases whole with
  | false=>
   have hb:hY g.bI d ids false=d.remove f:=by unfold hY;rw[uw];rfl
   rw[hb]
   refine zO ?_
   refine zw ?_
   refine Gp ?_
   refine Cg (Zn dp d N b5 eJ f) λw hS=>?_
   have hS:=ig (aR hS)
   exact⟨_,⟨rfl,rfl⟩,hS⟩
  | true=>
   have hb:hY g.bI d ids true=if nJ g.bI<mE d.R f then d.cut f (nJ g.bI) else (d,0):=by unfold hY;rw[uw];rfl
   rw[hb]
   refine zO ?_
   refine zq ?_
   have hn:=dV rfl W3
   have hle:0<xs.length:=by
    rcases Nat.eq_zero_or_pos xs.length with h0|h0
    ·rw[<- hx,List.eq_nil_of_length_eq_zero h0]at hn;exact absurd rfl hn
    ·exact h0
   have iL:xs.length-1<xs.length:=by omega
   have Ff:nJ g.bI=((xs[xs.length-1]'iL).size:Nat):=by
    unfold nJ
    rw[<- hx,List.getLast?_map,List.getLast?_eq_getElem?,List.getElem?_eq_getElem iL];rfl
   rw[Ff]
   refine Gn λw hS=>?_
   refine zT hS (v:=sv) (t:=228) (sz:=4) (n:=xs.length) (cells:=(xs.map eK).flatten) Xh ?_
   refine Gp ?_
   have e:((xs.length:Nat):Int)-1=((xs.length-1:Nat):Int):=by omega
   rw[e]
   refine Sf (i:=2) hS Xh iL (u:=.int .i64 ((xs[xs.length-1]'iL).size:Nat)) rfl ?_
   generalize (xs[xs.length-1]'iL).size=z at *
   refine Gp ?_
   refine Cg (QR dp d f) λw hS=>?_
   refine za (λh1=>?_) (λh1=>?_)
   ·rw[if_pos h1]
    refine Gp ?_
    refine Cg (Yj dp d N b5 (by omega) eJ f (z:Int)) λw hS=>?_
    have hS:=ig (aR hS)
    exact⟨_,⟨rfl,rfl⟩,hS⟩
   ·rw[if_neg h1]
    have hS:=ig (aR hS)
    exact⟨_,⟨rfl,rfl⟩,hS⟩
def Dg(dp:Nat)(y:DS × Except Int dJ)(r:Value)(post:List Chunk):Prop:=match y.2 with
 | .error e=>e≠0/\r= .tuple #[.pointer none,.int .i64 e]/\post=[.ob (b_ dp y.1)]
 | .ok g=>∃lp:Nat,r= .tuple #[.pointer (some ⟨lp,0,none⟩),.int .i64 0]/\post=[.ob (eb lp dp g),.ob (b_ dp y.1)]
theorem PS{R:List PF}{M N:Nat}{base:Int}(hR:nY R base N)(hN:N<=M)(b0:0<=base)(b1:base<=12288):∀(ids:List Int) (prev:Option Int) (L:List dz) (wh:Bool) (k:Nat),(∀f∈ids,base<=f/\f<base+4096)->(∀s∈L,jA s M)->L.length<=k->∀{L' u7},jw R ids prev L wh=some (L',u7)->(∀s∈L',jA s M)/\L'.length<=k+ids.length
 | [],prev,L,wh,k,_,hL,hk,L',u7,h=>by
  cases h;exact⟨hL,by simpa using hk⟩
 | f::r,prev,L,wh,k,hf,hL,hk,L',u7,h=>by
  rw[Ax]at h
  obtain⟨f0,f1⟩:=hf f (.head _)
  obtain⟨k1,k2⟩:=F3 (last:=r.isEmpty) (hR.at_ ⟨f0,f1⟩) hN (by omega) (by omega) hL
  split at h
  ·cases h
  ·split at h
   ·cases h
   ·have:=PS hR hN b0 b1 r _ _ _ (k+1) (λx hx=>hf x (.tail _ hx)) k1 (by omega) h
    exact⟨this.1,by simp at this ⊢;omega⟩
theorem FR{base:Int}{R:List PF}{f:Int}(h:f∈fg base R):base<=f/\f<base+4096:=by
 unfold fg at h
 have:=(List.mem_filter.1 h).2
 simpa using this
theorem FQ(base:Int)(R:List PF):(fg base R).length<=R.length:=by
 unfold fg
 have:=List.length_filter_le (λf=>decide (base<=f/\f<base+4096)) (R.map PF.id)
 rwa [List.length_map]at this
theorem aFc{d d':DS}{base size:Int}{N:Nat}(hw:nY d.R base N)(hR:d.R.length<=100000){g:dJ}(h:gD d base size=(d',.ok g)):g.Ok (N+100000)/\d.off=false:=by
 unfold gD at h
 split at h
 ·cases h
 ·rename_i hb
  split at h
  ·cases h
  ·rename_i ho
   split at h
   ·cases h
   ·rename_i L wh hl
    obtain⟨k1,k2⟩:=PS (M:=N+100000) hw (by omega) (by omega) (by omega) _ _ [] _ 0 (λf hf=>FR hf) (by simp) (by simp) hl
    have:=FQ base d.R
    have hL:(⟨L,base,size,none⟩:dJ).Ok (N+100000):=⟨k1,by show 0<=base;omega,by show base<=12288;omega,by show 64<=size;omega,by show size<=65536;omega,by show L.length<=_;omega⟩
    split at h
    ·cases h
    ·cases h;exact⟨hL,by simpa using ho⟩
theorem aFe(dp:Nat)(d:DS)(base size:Int){N B:Nat}(b5:d.Ok B)(hB:B<=140737488355328)(hw:nY d.R base N)(hN:N<=1000000000)(hR:d.R.length<=100000)(eJ:d.ops<=100000):
  SP 55 [.pointer (some ⟨dp,0,none⟩),.int .i64 base,.int .i64 size] [.ob (b_ dp d)] (Dg dp (gD d base size)):=by
 intro W F w hS;apply b50;delta K6 aF dc ai dk bF;(try simp only[app]at hS)
 by_cases um:base<0\/12288<base\/size<64\/65536<size
 ·have e:gD d base size=(d,.error 1):=by unfold gD;rw[if_pos um]
  rw[e]
  have hE:∀{w:World},SL W (.ob (b_ dp d)::F) w->∃post,Dg dp (d,.error 1) (.tuple #[.pointer none,.int .i64 1]) post/\SL W (app post F) w:=λh=>⟨_,⟨by decide,rfl,rfl⟩,h⟩
  refine Gp ?_
  refine za (λh=>hE hS) (λh1=>?_)
  refine Gp ?_
  refine za (λh=>hE hS) (λh2=>?_)
  refine Gp ?_
  refine za (λh=>hE hS) (λh3=>?_)
  refine Gp ?_
  refine za (λh=>hE hS) (λh4=>by omega)
 ·refine Gp ?_
  refine za (λh=>by omega) (λ_=>?_)
  refine Gp ?_
  refine za (λh=>by omega) (λ_=>?_)
  refine Gp ?_
  refine za (λh=>by omega) (λ_=>?_)
  refine Gp ?_
  refine za (λh=>by omega) (λ_=>?_)
  refine Cg (Zc dp d) λw hS=>?_
  refine y0 (λho=>?_) (λho=>?_)
  ·have e:gD d base size=(d,.error 8):=by unfold gD;rw[if_neg um,if_pos ho]
   rw[e]
   exact⟨_,⟨by decide,rfl,rfl⟩,hS⟩
  ·have eo:gD d base size=match jw d.R (fg base d.R) none [] true with
    | none=>(d,.error 3)
    | some (L,whole)=>if (hY L d (fg base d.R) whole).2≠0 then ((hY L d (fg base d.R) whole).1,.error (hY L d (fg base d.R) whole).2) else ((hY L d (fg base d.R) whole).1,.ok ⟨L,base,size,none⟩):=by
    unfold gD;rw[if_neg um,if_neg (by rw[ho];decide)];rfl
   rw[eo]
   have hi:∀f∈fg base d.R,base<=f/\f<base+4096:=λf hf=>FR hf
   have bW:=FQ base d.R
   refine Gp ?_
   refine⟨_,rfl,zI hS ?_⟩
   clear hS;intro lp w hS
   have hS:=(w4 (v:=.pointer none)).2 ⟨rfl,hS⟩
   have hS:=dC.nK (a:=none) (t:=228) (sz:=4) hS
   have hS:=zf.nil (A:=dF) hS
   have hS:=SL.b6 hS (t:=.pt lp (fx (.slice none 0 0) (.pointer none) dp base size) 148::.ob (dC (.slice none 0 0) 228 4 0 [])::.ob (zf dF [])::.ob (fV (.pointer none) none)::.ob (b_ dp d)::F) Xi
   have hS:=(eb.iff (g:=⟨[],base,size,none⟩)).2 ⟨_,_,[],rfl,hS⟩
   refine Cc (Y0 lp dp ⟨[],base,size,none⟩ d (M:=0) (N:=B) (by show 0<=base;omega) (by show base<=12288;omega) b5 hR) ?_;clear hS
   rintro iv post rfl w hS;(try simp only[app]at hS)
   generalize xR:fg base d.R=ids at *
   refine zr hS (v:=iv) (t:=3) (sz:=1) (n:=ids.length) (cells:=ids.map (Value.int .i64)) Xh ?_
   refine⟨λvs w=>∃(wh:Bool) (i:Nat) (L:List dz),i<=ids.length/\vs=[.bool wh,.int .i64 i]/\jw d.R ids none [] true=jw d.R (ids.drop i) (if i=0 then none else ids[i-1]?) L wh/\(∀s∈L,jA s (N+100000))/\L.length<=i/\(wh=true->0<i->L≠[])/\SL W (.ob (eb lp dp ⟨L,base,size,none⟩)::.ob (b_ dp d)::.ob (a7 iv 3 1 ids.length (ids.map (Value.int .i64)))::F) w,
    λvs _=>match vs with|[_,.int _ i]=>(ids.length-i).toNat|_=>0,⟨true,0,[],by omega,rfl,rfl,by simp,by simp,λ_ h=>by omega,aR hS⟩,?_⟩
   clear hS
   rintro v10 v43 w ⟨wh,i,L,E6,eY,lK,NX,EI,FN,hS⟩
   cases eY
   have EH:(⟨L,base,size,none⟩:dJ).Ok (N+100000):=⟨NX,by show 0<=base;omega,by show base<=12288;omega,by show 64<=size;omega,by show size<=65536;omega,by show L.length<=_;omega⟩
   refine bR (λh1=>?_) (λh1=>?_)
   ·have hj:i<ids.length:=by omega
    have hu:(ids.map (Value.int .i64))[i]?=some (.int .i64 ids[i]):=by simp[hj]
    have rT:=hi _ (List.getElem_mem hj)
    rw[List.drop_eq_getElem_cons hj,Ax]at lK
    refine z7 hS (v:=iv) (t:=3) Xh hj hu ?_
    refine zr hS (v:=iv) (t:=3) (sz:=1) (n:=ids.length) (cells:=ids.map (Value.int .i64)) Xh ?_
    refine Gp ?_
    have p9:decide (((i:Nat):Int)=((ids.length:Nat):Int)-1)=(ids.drop (i+1)).isEmpty:=by
     rw[Bool.eq_iff_iff,decide_eq_true_iff,List.isEmpty_iff,List.drop_eq_nil_iff]
     omega
    rw[p9]
    obtain⟨k1,k2⟩:=F3 (L:=L) (f:=ids[i]) (last:=(ids.drop (i+1)).isEmpty) (M:=N+100000) (hw.at_ rT) (by omega) (by omega) (by omega) NX
    have OW:(iX L d.R ids[i] (ids.drop (i+1)).isEmpty).1.1=true->(iX L d.R ids[i] (ids.drop (i+1)).isEmpty).1.2=true->(iX L d.R ids[i] (ids.drop (i+1)).isEmpty).2≠[]:=by
     unfold iX
     simp only
     split
     ·intro h;cases h
     ·split
      ·intro _ h;cases h
      ·intro _ _;simp
    refine Cg (qG lp dp ⟨L,base,size,none⟩ d ids[i] (ids.drop (i+1)).isEmpty EH (by omega) b5 hB (hw.at_ rT) (by omega)) λw hS=>?_
    generalize hLG:iX L d.R ids[i] (ids.drop (i+1)).isEmpty=y at *
    obtain⟨⟨is,ok⟩,L2⟩:=y
    simp only at hS lK k1 k2 OW ⊢
    cases ok with
    | false=>
     refine zw ?_
     rw[if_pos rfl]at lK
     rw[lK]
     exact⟨_,⟨by decide,rfl,rfl⟩,aR hS⟩
    | true=>
     refine zq ?_
     rw[if_neg (by decide)]at lK
     have mX:∀{w:World},(¬rM (if i=0 then none else ids[i-1]?) ids[i]=true)->SL W (.ob (eb lp dp ⟨L2,base,size,none⟩)::.ob (b_ dp d)::.ob (a7 iv 3 1 ids.length (ids.map (Value.int .i64)))::F) w ->
       ∃(wh:Bool) (i':Nat) (L:List dz),i'<=ids.length/\[Value.bool is,Value.int .i64 ((i+1:Nat):Int)]=[.bool wh,.int .i64 i']/\jw d.R ids none [] true=jw d.R (ids.drop i') (if i'=0 then none else ids[i'-1]?) L wh/\(∀s∈L,jA s (N+100000))/\L.length<=i'/\(wh=true->0<i'->L≠[])/\SL W (.ob (eb lp dp ⟨L,base,size,none⟩)::.ob (b_ dp d)::.ob (a7 iv 3 1 ids.length (ids.map (Value.int .i64)))::F) w:=by
      intro w hp hS
      refine⟨is,i+1,L2,by omega,rfl,?_,k1,by omega,λh _=>OW h rfl,hS⟩
      rw[if_neg hp]at lK
      rw[lK,if_neg (by omega),Nat.add_sub_cancel,List.getElem?_eq_getElem hj]
     refine bR (λh2=>?_) (λh2=>?_)
     ·have kY:i-1<ids.length:=by omega
      have pa:=hi _ (List.getElem_mem kY)
      refine Gp ?_
      have e:((i:Nat):Int)-1=((i-1:Nat):Int):=by omega
      rw[e]
      have FK:(ids.map (Value.int .i64))[i-1]?=some (.int .i64 (ids[i-1]'kY)):=by simp[kY]
      refine z7 hS (v:=iv) (t:=3) Xh kY FK ?_
      have O4:rM (if i=0 then none else ids[i-1]?) ids[i]=decide (ids[i]≠(ids[i-1]'kY)+1):=by
       rw[if_neg (by omega),List.getElem?_eq_getElem kY];rfl
      refine bR (λh3=>?_) (λh3=>?_)
      ·rw[if_pos (by rw[O4];simpa using h3)]at lK
       rw[lK]
       exact⟨_,⟨by decide,rfl,rfl⟩,aR hS⟩
      ·refine Gp ?_
       exact⟨mX (by rw[O4];simpa using h3) (aR hS),by dsimp only;omega⟩
     ·refine Gp ?_
      have vP:i=0:=by omega
      exact⟨mX (by rw[if_pos vP];simp[rM]) (aR hS),by dsimp only;omega⟩
   ·have iW:i=ids.length:=by omega
    rw[iW,List.drop_length]at lK
    rw[lK]
    simp only[jw]
    have BN:=DH (L:=L) (ids:=ids) (wh:=wh) b5
    refine Cg (YX lp dp ⟨L,base,size,none⟩ d iv ids wh EH (by omega) b5 (by omega) eJ (λh dV=>FN h (by rw[iW];exact List.length_pos_iff.2 dV)) (by omega)) λw hS=>?_
    simp only at hS ⊢
    refine za (λh2=>?_) (λh2=>?_)
    ·rw[if_pos h2]
     exact⟨_,⟨h2,rfl,rfl⟩,aR hS⟩
    ·rw[if_neg h2]
     exact⟨_,⟨lp,rfl,rfl⟩,aR hS⟩
section
variable (lp dp:Nat) (g:dJ) {M:Nat} (hg:g.Ok M) (hM:M<=1000000000000)
include hg hM
theorem qF:SP 69 [.pointer (some ⟨lp,0,none⟩)] [.ob (eb lp dp g)] (dj (.int .i64 (b9 g.bI)) [.ob (eb lp dp g)]):=by
 intro W F w hS
 obtain⟨sv,tv,xs,hx,hS⟩:=eb.iff.1 hS
 obtain⟨h1,h2,_,_⟩:=hg.xs hx
 refine yP (yi lp (fx sv tv dp g.base g.size) 148 sv xs rfl h1 (by omega) (by omega)) hS Xp ?_
 rintro v post ⟨rfl,rfl⟩ w hS
 try simp only[app]at hS
 rw[hx]
 exact⟨_,⟨rfl,rfl⟩,eb.iff.2 ⟨sv,tv,xs,hx,aR hS⟩⟩
theorem QV:SP 70 [.pointer (some ⟨lp,0,none⟩)] [.ob (eb lp dp g)] (dj (.int .i64 (e_ g.bI)) [.ob (eb lp dp g)]):=by
 intro W F w hS
 obtain⟨sv,tv,xs,hx,hS⟩:=eb.iff.1 hS
 obtain⟨h1,h2,_,_⟩:=hg.xs hx
 refine yP (QU lp (fx sv tv dp g.base g.size) 148 sv xs rfl (by omega)) hS Xp ?_
 rintro v post ⟨rfl,rfl⟩ w hS
 try simp only[app]at hS
 rw[hx]
 exact⟨_,⟨rfl,rfl⟩,eb.iff.2 ⟨sv,tv,xs,hx,aR hS⟩⟩
theorem qT(n:Int)(hn : -9000000000000000000<=n/\n<=9000000000000000000):SP 71 [.pointer (some ⟨lp,0,none⟩),.int .i64 n] [.ob (eb lp dp g)] (wX [.ob (eb lp dp g)] (g9 g.bI n)):=by
 intro W F w hS
 obtain⟨sv,tv,xs,hx,hS⟩:=eb.iff.1 hS
 obtain⟨h1,h2,_,_⟩:=hg.xs hx
 refine yP (qS lp (fx sv tv dp g.base g.size) 148 sv xs n rfl h1 (by omega) (by omega) hn) hS Xp ?_
 intro r post hQ w hS
 rw[hx]at hQ
 cases hr:g9 g.bI n with
 | none=>
  rw[hr]at hQ
  obtain⟨rfl,rfl⟩:=hQ
  try simp only[app]at hS
  exact⟨_,⟨rfl,rfl⟩,eb.iff.2 ⟨sv,tv,xs,hx,aR hS⟩⟩
 | some b=>
  rw[hr]at hQ
  obtain⟨u,rfl,rfl⟩:=hQ
  try simp only[app]at hS
  have hS:=(eb.iff (g:=g)).2 ⟨sv,tv,xs,hx,SL.b6 hS (t:=.pt lp (fx sv tv dp g.base g.size) 148::fm sv xs::.ob (zf dF xs)::.ob (fV tv g.dM)::.ob (a7 u 5 1 b.length (b.map cI))::F) Xi⟩
  exact⟨_,⟨u,rfl,rfl⟩,aR hS⟩
end
def Di(H:aW)(v:Value)(ls:List (List UInt8)):Prop:=∃vs:List Value,vs.length=ls.length/\dy H 1 v ls.length vs/\∀i (h:i<ls.length) (h':i<vs.length),dy H 1 vs[i] ls[i].length (ls[i].map cI)
theorem Di.mono{H H':aW}(hh:H.le H'){v:Value}{ls:List (List UInt8)}(h:Di H v ls):Di H' v ls:=by
 obtain⟨vs,h1,h2,h3⟩:=h
 exact⟨vs,h1,h2.mono hh,λi a b=>(h3 i a b).mono hh⟩
abbrev mG(tp dp lp:Nat)(fX image:Int):List Value:=[dg tp,dg dp,dg lp,.int .i64 fX,.int .i64 image]
def dU(sp tp dp lp:Nat)(k:du):zC:=zP True [.pt sp (mG tp dp lp k.fX k.image) 58,.ob (eP tp k.ts),.ob (eb lp dp k.g)]
section
variable {W w:World} {l F:List Chunk} {sp tp dp lp:Nat}
theorem dU.iff{k:du}:SL W (.ob (dU sp tp dp lp k)::l) w↔SL W (.pt sp (mG tp dp lp k.fX k.image) 58::.ob (eP tp k.ts)::.ob (eb lp dp k.g)::l) w:=by
 unfold dU
 simp only[SL.fact,true_and,List.cons_append,List.nil_append]
theorem dU.put(k:du)(hS:SL W l w)(p:gq [.pt sp (mG tp dp lp k.fX k.image) 58,.ob (eP tp k.ts),.ob (eb lp dp k.g)] l F):SL W (.ob (dU sp tp dp lp k)::F) w:=dU.iff.2 (hS.pick p)
end
theorem dU.lh{W w:World}{l F:List Chunk}{sp tp dp lp:Nat}{g:dJ}{d:DS}{ts:gg}{fX image:Int}(hS:SL W l w)(p:gq [.pt sp (mG tp dp lp fX image) 58,.ob (eP tp ts),.ob (eb lp dp g)] l F):SL W (.ob (dU sp tp dp lp ⟨g,d,ts,fX,image⟩)::F) w:=dU.iff.2 (hS.pick p)
structure jz(k:du)(N:Nat):Prop where
 g:kP k.g N
 d:k.d.Ok N
 rows:∀C∈k.ts,ly C
 len:∀C∈k.ts,C.length<=1000
 n1:1<=k.ts.length
 n8:k.ts.length<=8
section
variable (sp tp dp lp:Nat) (k:du) {N:Nat} (hg:kP k.g N) (hN:N<=1000000000)
include hg hN
theorem yl:SP 21 [dg sp] [.ob (dU sp tp dp lp k)] (dj (.int .i64 (b9 k.g.bI)) [.ob (dU sp tp dp lp k)]):=by
 intro W F w hS;apply bIv;delta Jk bw df;(try simp only[app]at hS)
 have hS:=dU.iff.1 hS
 refine Gp ?_
 refine Cg (qF lp dp k.g hg.ok (by omega)) λw hS=>?_
 exact⟨_,⟨rfl,rfl⟩,SL.b6 (dU.put k hS Xp) Xi⟩
theorem Yx:SP 22 [dg sp] [.ob (dU sp tp dp lp k)] (dj (.int .i64 (e_ k.g.bI)) [.ob (dU sp tp dp lp k)]):=by
 intro W F w hS;apply bIz;delta Jo bw df;(try simp only[app]at hS)
 have hS:=dU.iff.1 hS
 refine Gp ?_
 refine Cg (QV lp dp k.g hg.ok (by omega)) λw hS=>?_
 exact⟨_,⟨rfl,rfl⟩,SL.b6 (dU.put k hS Xp) Xi⟩
def rC(sp tp dp lp:Nat)(k:du)(H:aW)(aI:Int)(r:Value)(post:List Chunk):Prop:=match k.fp aI with
 | .error e=>e≠0/\∃H',H.le H'/\r= .tuple #[agg (eI ry),.int .i64 e]/\post=[.ob (dU sp tp dp lp k),.mem H']
 | .ok t=>∃x H',H.le H'/\r= .tuple #[agg (eI x),.int .i64 0]/\gO H' x t/\post=[.ob (dU sp tp dp lp k),.mem H']
theorem zY(H:aW)(aI:Int)(hl : -9000000000000000000<=aI/\aI<=9000000000000000000):SP 23 [dg sp,.int .i64 aI] [.ob (dU sp tp dp lp k),.mem H] (rC sp tp dp lp k H aI):=by
 intro W F w hS;apply bRa;delta Jz aF bw df ai bF;(try simp only[app]at hS)
 refine Gb λzb w hS=>?_
 have hS:=dU.iff.1 (SL.b6 hS (t:=.ob (dU sp tp dp lp k)::.pt zb [.int .i64 0,.int .i64 0,.slice none 0 0,.slice none 0 0,.int .i64 0] 39::.mem H::F) Xi)
 refine Gp ?_
 refine Cc (qT lp dp k.g hg.ok (by omega) aI hl) ?_;clear hS
 rintro r post hq w hS
 unfold wX at hq
 cases hr:g9 k.g.bI aI with
 | none=>
  rw[hr]at hq
  obtain⟨rfl,rfl⟩:=hq
  have he:k.fp aI= .error 5:=by unfold du.fp;rw[hr]
  try simp only[app]at hS
  have hS:=dU.put k hS Xp
  refine Gp ?_
  refine za (λ_=>?_) (λh=>absurd (by decide) h)
  refine Gn λw hS=>?_
  exact⟨[.ob (dU sp tp dp lp k),.mem H],by unfold rC;rw[he];exact⟨by decide,H,aW.le_refl H,rfl,rfl⟩,aR hS⟩
 | some bs=>
  rw[hr]at hq
  obtain⟨u,rfl,rfl⟩:=hq
  have he:k.fp aI=iU bs:=by unfold du.fp;rw[hr]
  try simp only[app]at hS
  have hS:=dU.put k hS Xp
  refine Gp ?_
  refine za (λh=>absurd rfl h) (λ_=>?_)
  refine Cc (qP (.ob (a7 u 5 1 bs.length (bs.map cI))) H u bs dN.own) ?_;clear hS
  rintro r post hq w hS
  unfold nS at hq
  cases hd:iU bs with
  | error e=>
   rw[hd]at hq
   obtain⟨dV,H',hh,rfl,rfl⟩:=hq
   try simp only[app]at hS
   unfold eI ry
   refine Gn λw hS=>?_
   refine⟨[.ob (dU sp tp dp lp k),.mem H'],?_,aR hS⟩
   unfold rC;rw[he,hd];exact⟨dV,H',hh,rfl,rfl⟩
  | ok t=>
   rw[hd]at hq
   obtain⟨x,H',hh,rfl,hx,rfl⟩:=hq
   try simp only[app]at hS
   have fW:=hx.cv.one
   have jl:=hx.sv.one
   refine Gp ?_
   refine zz (vs:=eI x) hS Xu rfl rfl (mo (aI:=x.aI) (kind:=x.kind) (mark:=x.mark) fW jl) λw hS=>?_
   refine yy hS Xh rfl ?_
   refine⟨[.ob (dU sp tp dp lp k),.mem H'],?_,aR hS⟩
   unfold rC;rw[he,hd];exact⟨x,H',hh,rfl,hx,rfl⟩
end
section
variable (sp tp dp lp:Nat) (k:du)
theorem qt(t key n:Int)(hn:∀C∈k.ts,C.length<=1000000)(hs:∀C∈k.ts,fZ C)(h1 : -1000000<=n)(h2:n<=9000000000000000000):SP 28 [dg sp,.int .i64 t,.int .i64 key,.int .i64 n] [.ob (dU sp tp dp lp k)] (λu post=>post=[fO u (k.oS t key n),.ob (dU sp tp dp lp k)]):=by
 intro W F w hS;apply bR7;delta J8 bw;(try simp only[app]at hS)
 have hS:=dU.iff.1 hS
 refine Gp ?_
 refine Cc (qv tp k.ts t key n hn hs h1 h2) ?_;clear hS
 rintro u post rfl w hS
 try simp only[app]at hS
 exact⟨_,rfl,SL.b6 (t:=fO u (iu (iG k.ts t) key n)::.ob (dU sp tp dp lp k)::F) (dU.put k hS Xp) Xi⟩
end
theorem ZS(H:aW)(v:Value)(l:List dW)(n:Int)(hv:dy H 4 v l.length (l.map gi).flatten)(hl:l.length<=140737488351232):SP 62 [v,.int .i64 n] [.mem H] (dj (.bool (decide (∀c∈l,c.table<n))) [.mem H]):=by
 intro W F w hS;apply b55;delta La aF a_ b7 ai c_;(try simp only[app]at hS)
 refine zm hv ?_
 refine⟨λus w=>∃i:Nat,us=[.int .i64 i]/\i<=l.length/\(∀j (h:j<l.length),j<i->l[j].table<n)/\SL W (.mem H::F) w,λus _=>match us with|[.int _ i]=>(l.length-i).toNat|_=>0,⟨0,rfl,by omega,λj h hj=>by omega,hS⟩,?_⟩
 clear hS
 rintro v9 w ⟨i,da,hi,dY,hS⟩
 cases da
 refine bR (λh=>?_) (λh=>?_)
 ·have bW:i<l.length:=by omega
  refine zS hS Xh kh hv (x:=l[i]) (by simp[bW]) bW ?_
  have hf:¬l[i].table<n->decide (∀c∈l,c.table<n)=false:=λh=>decide_eq_false λh2=>h (h2 _ (List.getElem_mem bW))
  have EM:l[i].table<n->∀j (h:j<l.length),j<i+1->l[j].table<n:=λh j hj gZ=>by
   by_cases e:j=i
   ·subst e;exact h
   ·exact dY j hj (by omega)
  clear dY
  generalize l[i]=c at *
  obtain⟨ct,ck,cg,cv⟩:=c
  rw[MW]
  refine Gm λb w hS=>?_
  refine za (λhb=>?_) (λhb=>?_)
  ·rw[hf (by show ¬ct<n;omega)]
   (exact dq hS)
  ·refine Gp ?_
   refine⟨⟨i+1,rfl,by omega,EM (by show ct<n;omega),aR hS⟩,by dsimp only;omega⟩
 ·rw[show decide (∀c∈l,c.table<n)=true from decide_eq_true λc hc=>by
   obtain⟨j,hj,rfl⟩:=List.getElem_of_mem hc
   exact dY j hj (by omega)]
  (exact dq hS)
theorem F4{t:cW}(h:eH t=true){n:Int}(h1:1<=n)(h2:n<=1099511627776):eH {t with aI:=n}=true:=by
 obtain⟨_,h3⟩:=ri.1 h
 exact ri.2 ⟨⟨h1,h2⟩,h3⟩
abbrev u_(sp tp dp lp:Nat)(H:aW)(y:du × (Int × Int)):Value->List Chunk->Prop:=dj (.tuple #[.int .i64 y.2.1,.int .i64 y.2.2]) [.ob (dU sp tp dp lp y.1),.ob (b_ dp y.1.d),.mem H]
theorem Yu(sp tp dp lp:Nat)(k:du)(H:aW)(x:jq)(t:cW)(hx:gO H x t)(hm:eH t=true){N:Nat}(hk:jz k N)(hN:N<=1000000000)(eJ:k.d.ops<=90000):
  SP 63 [dg sp,agg (eI x)] [.ob (dU sp tp dp lp k),.ob (b_ dp k.d),.mem H] (u_ sp tp dp lp H (k.ir t)):=by
 intro W F w hS;apply b56;delta Lb aF bw a_ dc ai;(try simp only[app]at hS)
 have hg:=hk.g
 obtain⟨FE,v_,FF,FG,FH,Ak,FI⟩:=kJ hm
 have ET:=rS hg.ok.bI
 have W2:∀C∈k.ts,C.length<=1000000:=λC hC=>by have:=hk.len C hC;omega
 have gK:∀C∈k.ts,fZ C:=λC hC=>(hk.rows C hC).sorted
 have h8:=hk.n8
 refine zK hS λxb w hS=>?_
 unfold eI at hS
 rw[hx.aI,hx.kind,hx.mark]at hS
 have hS:=dU.iff.1 (SL.b6 hS (t:=.ob (dU sp tp dp lp k)::kR xb x t::.ob (b_ dp k.d)::.mem H::F) Xi)
 refine Gp ?_
 refine Cg (Zc dp k.d) λw hS=>?_
 cases ho:k.d.off with
 | true=>
  refine zw ?_
  rw[show k.ir t=(k,(0,8)) by unfold du.ir;rw[if_pos ho]]
  exact⟨_,⟨rfl,rfl⟩,SL.b6 (dU.put k hS Xp) Xi⟩
 | false=>
  refine zq ?_
  refine Gn λw hS=>?_
  refine Cg (Qo tp k.ts H x.cv t.changes hx.cv (by omega) gK W2 (by omega) (by omega)) λw hS=>?_
  refine zA (λhf=>?_) (λhf=>?_)
  ·rw[show k.ir t=(k,(0,7)) by unfold du.ir;rw[if_neg (by simp[ho]),if_pos (.inl hf)]]
   exact⟨_,⟨rfl,rfl⟩,SL.b6 (dU.put k hS Xp) Xi⟩
  have hS:=dU.put k hS Xp
  refine Cg (yl sp tp dp lp k hg hN) λw hS=>?_
  refine za (λhh=>?_) (λhh=>?_)
  ·rw[show k.ir t=(k,(0,7)) by unfold du.ir;rw[if_neg (by simp[ho]),if_pos (.inr hh)]]
   exact dq hS
  refine Cg (yl sp tp dp lp k hg hN) λw hS=>?_
  have pe:=F4 hm (n:=b9 k.g.bI+1) (by omega) (by omega)
  have jv:gO H ⟨b9 k.g.bI+1,t.kind,x.cv,x.sv,t.mark⟩ {t with aI:=b9 k.g.bI+1}:=⟨rfl,rfl,rfl,hx.cv,hx.sv⟩
  have xF:k.ir t=(let r:=fP k.g k.d (iS {t with aI:=b9 k.g.bI+1});if r.2.2=0 then ({k with g:=r.1.1,d:=r.1.2,ts:=eZ k.ts t.changes},(b9 k.g.bI+1,0)) else ({k with g:=r.1.1,d:=r.1.2},(0,r.2.2))):=by
   unfold du.ir
   rw[if_neg (by simp[ho]),if_neg (by rw[hf];simp;omega)]
  have rQ:=Bi pe
  have BN:=Mi pe
  rw[xF]
  clear xF
  generalize hq:({t with aI:=b9 k.g.bI+1}:cW)=t2 at *
  have vT:1<=b9 k.g.bI+1:=by omega
  generalize b9 k.g.bI+1=aI at *
  refine Cc (qQ H ⟨aI,t.kind,x.cv,x.sv,t.mark⟩ t2 jv) ?_;clear hS
  rintro r post hq w hS
  unfold sy at hq
  rw[BN]at hq
  obtain⟨bv,rfl,rfl⟩:=hq
  try simp only[app]at hS
  have hS:=dU.iff.1 (SL.b6 hS (t:=.ob (dU sp tp dp lp k)::.ob (a7 bv 5 1 (mj t2).length ((mj t2).map cI))::.ob (b_ dp k.d)::.pt xb [.int .i64 aI,.int .i64 t.kind,x.cv,x.sv,.int .i64 t.mark] 39::.mem H::F) Xi)
  refine Gp ?_
  refine⟨λus w=>us=[.int .i64 (fP k.g k.d (iS t2)).2.2]/\SL W (.ob (eb lp dp (fP k.g k.d (iS t2)).1.1)::.ob (b_ dp (fP k.g k.d (iS t2)).1.2)::.pt sp (mG tp dp lp k.fX k.image) 58::.ob (eP tp k.ts)::.pt xb [.int .i64 aI,.int .i64 t.kind,x.cv,x.sv,.int .i64 t.mark] 39::.mem H::F) w,?_,?_⟩
  ·refine Gp ?_
   refine za (λ_=>?_) (λh=>absurd rfl h)
   refine Gp ?_
   refine Cg (YA (.ob (a7 bv 5 1 (mj t2).length ((mj t2).map cI))) lp dp k.g k.d bv (mj t2) dN.own (by omega) hg.ok (by omega) hk.d (by omega) eJ) λw hS=>?_
   exact aR hS
  clear hS
  rintro v7 w ⟨da,hS⟩
  cases da
  generalize fP k.g k.d (iS t2)=r at *
  obtain⟨⟨g',d'⟩,n',e'⟩:=r
  simp only at hS ⊢
  refine bR (λhe=>?_) (λhe=>?_)
  ·rw[if_neg he]
   exact⟨_,⟨rfl,rfl⟩,SL.b6 (dU.lh (d:=d') hS Xp) Xi⟩
  ·have he:e'=0:=by omega
   rw[if_pos he]
   refine Gn λw hS=>?_
   refine Cg (ZK tp k.ts H x.cv t.changes hx.cv (by omega) gK 1000 hk.len (by omega)) λw hS=>?_
   have dY:t.changes.all (gd k.ts.length)=true:=by
    unfold lE at hf
    rw[Bool.and_eq_true]at hf
    exact hf.1
   rw[if_pos dY]at hS
   exact⟨_,⟨rfl,rfl⟩,SL.b6 (dU.lh (d:=d') hS Xp) Xi⟩
theorem yQ(sp tp dp lp:Nat)(k:du)(H:aW)(sv cv:Value)(sg:List ByteArray)(l:List dW)(hs:dy H 1 sv sg.length (sg.map Value.string))(hc:dy H 4 cv l.length (l.map gi).flatten)(hl:l.length<=140737488351232){N:Nat}(hk:jz k N)(hN:N<=1000000000)(eJ:k.d.ops<=90000):
  SP 18 [dg sp,sv,cv] [.ob (dU sp tp dp lp k),.ob (b_ dp k.d),.mem H] (u_ sp tp dp lp H (k.jE sg l)):=by
 intro W F w hS;apply bF6;delta IX bw dc ai bF;(try simp only[app]at hS)
 have po:=hs.one
 have fW:=hc.one
 have hx:gO H ⟨1,1,cv,sv,0⟩ ⟨1,1,l,sg,0⟩:=⟨rfl,rfl,rfl,hc,hs⟩
 have e0:iw [.int .i64 0,.int .i64 0,.slice none 0 0,.slice none 0 0,.int .i64 0] [(0,1,.int .i64 1),(1,1,.int .i64 1),(2,1,cv),(3,1,sv)]=some (eI ⟨1,1,cv,sv,0⟩):=by
  simp[iw,show ∀n,(Value.int .i64 n).cells = #[.int .i64 n] from λ_=>rfl,si po,si fW,eI]
 refine yr e0 ?_
 refine Gb λxb w hS=>?_
 refine zz hS Xu rfl rfl (mo fW po) λw hS=>?_
 refine yy hS Xh rfl ?_
 refine Cg (yq H ⟨1,1,cv,sv,0⟩ ⟨1,1,l,sg,0⟩ hx) λw hS=>?_
 refine zA (λhm=>?_) (λhm=>?_)
 ·rw[show k.jE sg l=(k,(0,1)) by unfold du.jE;rw[if_neg (by rw[hm];simp)]]
  exact dq hS
 have hS:=dU.iff.1 (SL.b6 hS (t:=.ob (dU sp tp dp lp k)::.pt xb (eI ⟨1,1,cv,sv,0⟩) 39::.ob (b_ dp k.d)::.mem H::F) Xi)
 refine Gp ?_
 refine Cg (yR tp k.ts) λw hS=>?_
 refine Cg (ZS H cv l k.ts.length hc hl) λw hS=>?_
 have hS:=dU.put k hS Xp
 refine zA (λhb=>?_) (λhb=>?_)
 ·have hb:=of_decide_eq_false hb
  rw[show k.jE sg l=(k,(0,1)) by unfold du.jE;rw[if_neg λh=>hb h.2]]
  exact dq hS
 have hb:=of_decide_eq_true hb
 rw[show k.jE sg l=k.ir ⟨1,1,l,sg,0⟩ by unfold du.jE;rw[if_pos ⟨hm,hb⟩]]
 refine yy hS Xh rfl ?_
 refine Cg (Yu sp tp dp lp k H ⟨1,1,cv,sv,0⟩ ⟨1,1,l,sg,0⟩ hx hm hk hN eJ) λw hS=>?_
 exact dq hS
structure b7g(H:aW)(v:Value)(Ts:List (List Row))(us:List Value):Prop where
 len:us.length=Ts.length
 out:dy H 1 v Ts.length us
 each:∀i (h:i<Ts.length) (h':i<us.length),dy H 2 us[i] Ts[i].length (Ts[i].map dX).flatten
def iA(n:Int)(l:List cW)(k:Int):List (List Row):=if n<1\/8<n then [] else (List.range n.toNat).map λt:Nat=>gY t (l.take (Wo k l.length))
theorem VD(l:List cW)(tb:Int)(i:Nat):(gY tb (l.take i)).length<=(l.flatMap (·.changes)).length:=by
 have h2:=aii (l:=(l.take i).flatMap (·.changes)) [] tb
 have e:(l.flatMap (·.changes)).length=((l.take i).flatMap (·.changes)).length+((l.drop i).flatMap (·.changes)).length:=by
  have:l=l.take i++l.drop i:=by simp
  conv=>lhs;rw[this]
  simp only[List.flatMap_append,List.length_append]
 unfold gY
 simp only[List.length_nil]at h2
 omega
theorem Rx{base size:Int}(b0:0<=base)(b1:base<=12288)(s0:64<=size)(s1:size<=65536):gD ja base size=(ja,.ok ⟨[],base,size,none⟩):=
 aFi (L:=[]) (f:=base) (n:=1) trivial rfl rfl b0 b1 s0 s1 (Int.le_refl _) (by simp;omega) (by decide) (by simp[eF])
theorem aik{base size:Int}(b0:0<=base)(b1:base<=12288)(s0:64<=size)(s1:size<=65536):oL ⟨[],base,size,none⟩ ja base 1 []:=
 ⟨trivial,rfl,rfl,λ_=>⟨rfl,rfl⟩,Int.le_refl _,b0,b1,s0,s1,by decide,by show base+((0:Nat):Int)+2<=base+4096;omega,rfl,rfl⟩
theorem aw4{base size:Int}(b0:0<=base)(b1:base<=12288)(s0:64<=size)(s1:size<=65536):(⟨[],base,size,none⟩:dJ).Ok 0:=⟨by simp,b0,b1,s0,s1,Nat.le_refl _⟩
structure jP(n:Nat)(all:List cW):Prop where
 ok:A9 n all
 len:all.length<=1000
 gH:(all.flatMap (·.changes)).length<=1000
theorem jP.nil(n:Nat):jP n []:=⟨⟨by simp,λi h=>by simp at h,by simp⟩,by decide,by decide⟩
theorem jP.take{n:Nat}{all:List cW}(h:jP n all)(j:Nat):jP n (all.take j):=by
 refine⟨⟨λt ht=>h.ok.may t (List.mem_of_mem_take ht),λi hi=>?_,λt ht=>h.ok.ch t (List.mem_of_mem_take ht)⟩,by rw[List.length_take];have:=h.len;omega,?_⟩
 ·rw[List.getElem_take];exact h.ok.aI i _
 ·have e:(all.flatMap (·.changes)).length=((all.take j).flatMap (·.changes)).length+((all.drop j).flatMap (·.changes)).length:=by
   conv=>lhs;rw[<- List.take_append_drop j all]
   rw[List.flatMap_append,List.length_append]
  have:=h.gH
  omega
theorem jP.row{n:Nat}{all:List cW}(h:jP n all):∀C∈gV n all,C.length<=1000:=λC hC=>by
 unfold gV at hC
 obtain⟨t,_,rfl⟩:=List.mem_map.1 hC
 have:=VD all (t:Int) all.length
 rw[List.take_length]at this
 have:=h.gH
 omega
theorem jP.rows{n:Nat}{all:List cW}(h:jP n all):∀C∈gV n all,ly C:=a_k h.ok.may h.ok.ch
theorem jP.X1{n:Nat}{all:List cW}(h:jP n all)(n1:1<=n)(n8:n<=8):Hv n all:=λj hj=>by
 have ht:=h.take j
 have hl:=h.len
 refine pA.2 ⟨⟨by omega,by omega,by rw[rn];exact n1,by rw[rn];exact n8⟩,λC hC=>⟨(ht.rows C hC).sorted,(ht.rows C hC).rows,ht.row C hC⟩⟩
theorem jP.fits{n:Nat}{all:List cW}{t:cW}(h:jP n (all++[t])):lE (gV n all) t.changes=true:=by
 have hc:=h.ok.ch t (by simp)
 have hr:=h.row
 rw[<- CW hc]at hr
 unfold lE
 rw[Bool.and_eq_true,List.all_eq_true,List.all_eq_true]
 exact⟨λc gj=>by rw[rn];exact hc c gj,λC hC=>decide_eq_true (hr C hC)⟩
theorem jP.app{n:Nat}{all:List cW}(h:jP n all){t:cW}(hm:eH t=true)(hl:t.aI=(all.length:Int)+1)(hc:∀c∈t.changes,gd n c=true)(h1:all.length+1<=1000)(h2:(all.flatMap (·.changes)).length+t.changes.length<=1000):jP n (all++[t]):=by
 refine⟨⟨λx hx=>?_,λi hi=>?_,λx hx=>?_⟩,by rw[List.length_append];exact h1,by rw[List.flatMap_append,List.length_append];simpa using h2⟩
 ·rcases List.mem_append.1 hx with hx|hx
  ·exact h.ok.may x hx
  ·rw[List.mem_singleton.1 hx];exact hm
 ·rw[List.getElem_append]
  split
  ·exact h.ok.aI i _
  ·rename_i hn
   rw[List.length_append,List.length_singleton]at hi
   simp only[List.getElem_singleton]
   rw[hl];omega
 ·rcases List.mem_append.1 hx with hx|hx
  ·exact h.ok.ch x hx
  ·rw[List.mem_singleton.1 hx];exact hc
theorem jz.mono{k:du}{N M:Nat}(h:jz k N)(hm:N<=M):jz k M:=⟨h.g.mono hm,h.d.mono hm,h.rows,h.len,h.n1,h.n8⟩
theorem jz.add{k:du}{N:Nat}(h:jz k N){t:cW}(hm:eH t=true):jz (k.ir t).1 (N+2000):=by
 unfold du.ir
 split
 ·exact h.mono (by omega)
 ·split
  ·exact h.mono (by omega)
  ·rename_i ho hf
   have xQ:=rS h.g.ok.bI
   have pe:=F4 hm (n:=b9 k.g.bI+1) (by omega) (by omega)
   have hl:=Bi pe
   have hb:(iS {t with aI:=b9 k.g.bI+1}).length<=1200:=hl
   have hg:=TV (d:=k.d) h.g (iS {t with aI:=b9 k.g.bI+1})
   have hd:=TX (g:=k.g) h.d (iS {t with aI:=b9 k.g.bI+1})
   generalize iS {t with aI:=b9 k.g.bI+1}=p at *
   have nE:lE k.ts t.changes=true:=by
    cases hq:lE k.ts t.changes with
    | true=>rfl
    | false=>exact absurd (Or.inl hq) hf
   simp only
   split
   ·unfold lE at nE
    rw[Bool.and_eq_true,List.all_eq_true,List.all_eq_true]at nE
    refine⟨hg.mono (by omega),hd.mono (by omega),DD (k:=8) h.rows (kJ hm).2.2.2.2.2.1 nE.1,λC hC=>of_decide_eq_true (nE.2 C hC),?_,?_⟩
    ·show 1<=(eZ k.ts t.changes).length
     rw[pK];exact h.n1
    ·show (eZ k.ts t.changes).length<=8
     rw[pK];exact h.n8
   ·exact⟨hg.mono (by omega),hd.mono (by omega),h.rows,h.len,h.n1,h.n8⟩
theorem jz.oU{k:du}{N:Nat}(h:jz k N)(sg:List ByteArray)(l:List dW):jz (k.jE sg l).1 (N+2000):=by
 unfold du.jE
 split
 ·rename_i hc;exact h.add hc.1
 ·exact h.mono (by omega)
def lN(n:Nat)(size:Int):du:=⟨⟨[],16,size,none⟩,ja,List.replicate n [],-1,0⟩
theorem Su{n:Nat}(n1:1<=n)(n8:n<=8){size:Int}(s0:64<=size)(s1:size<=65536):nL ja n size=(ja,.ok (lN n size))/\sG n (lN n size) [] 0 [] ja 16 0 0:=by
 have ow:sB n [] [] (-1) 0:=⟨.nil,by simp,by simp,λ_=>rfl,.inl rfl,Nat.le_refl _,λh=>absurd rfl h,by simp⟩
 have hw:fq 16 4112 [] [] ja.R:=⟨by simp,by simp[ja],by simp⟩
 have:=aFg n1 n8 (jP.nil n).ok ((jP.nil n).X1 n1 n8) (I:=[]) (tr:=0) (Rx (base:=16) (by decide) (by decide) s0 s1) hw (aik (by decide) (by decide) s0 s1) rfl ow (Nat.le_refl _) (Nat.le_refl _) (by decide)
 rw[Ha]at this
 exact this
theorem St{n:Nat}(n1:1<=n)(n8:n<=8){size:Int}(s0:64<=size)(s1:size<=65536):jz (lN n size) 0:=
 ⟨⟨aw4 (by decide) (by decide) s0 s1,trivial,show (0:Int)<=1099511627776 by decide,λx hx=>by cases hx⟩,GQ 0,λC hC=>by rw[(List.mem_replicate.1 hC).2];exact R7,λC hC=>by rw[(List.mem_replicate.1 hC).2];exact Nat.zero_le _,by show 1<=(List.replicate n []).length;rw[List.length_replicate];exact n1,by show (List.replicate n []).length<=8;rw[List.length_replicate];exact n8⟩
theorem sG.read{n:Nat}{k:du}{all:List cW}{tr:Nat}{I:List PF}{d0:DS}{f:Int}{lo m:Nat}(h:sG n k all tr I d0 f lo m)(ho:∀t∈all,eH t=true){j:Nat}(h1:lo<=j)(h2:j<all.length):k.fp ((j:Int)+1)= .ok all[j]:=by
 unfold du.fp
 rw[h.log.chain.read,if_pos (by omega),h.log.kD]
 have e:(((j:Int)+1-((lo:Int)+1)).toNat)=j-lo:=by omega
 have e2:((all.drop lo).map iS)[j-lo]?=some (iS all[j]):=by
  rw[List.getElem?_map,List.getElem?_drop,show lo+(j-lo)=j by omega,List.getElem?_eq_getElem h2];rfl
 rw[e,e2]
 exact Mh (ho _ (List.getElem_mem h2))
end Go.Proofs.YtfenmffiidchcaaGreat
