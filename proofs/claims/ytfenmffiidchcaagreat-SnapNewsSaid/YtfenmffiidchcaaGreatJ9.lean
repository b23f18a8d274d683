/-
  Texts of the proof, joined: SlIns, IdxS, WalS, WalS2, TabS, Sl4K, TabF, TxnS, TxnE, TxnDec, ImgS, ImgD, RLogM, WalS3, WalS4, WalS5, WalS6, WalS7, WalS8, WalS9, WalSA, WalSB, SrcS, SrcS2, FoldS, RefFF, Law06, SrcQ.
-/
import Derived.Test.YtfenmffiidchcaaGreatJ8
import Derived.Test.YtfenmffiidchcaaGreatQVcI
import Derived.Lib.Overlaps
import Derived.Lib.AppendZerosOnto
import Derived.Test.YtfenmffiidchcaaGreatQVcG
import Derived.Test.YtfenmffiidchcaaGreatQVcL
import Derived.Test.YtfenmffiidchcaaGreatQTab
import Derived.Test.YtfenmffiidchcaaGreatQVcX
import Derived.Test.YtfenmffiidchcaaGreatQVcA
import Derived.Test.YtfenmffiidchcaaGreatQVcC
import Derived.Test.YtfenmffiidchcaaGreatQVcF
namespace Go.Proofs.YtfenmffiidchcaaGreat
set_option linter.unusedVariables false
set_option maxRecDepth 100000
open Go.RowKit
def PtZ(b:Nat)(cs:List Value)(t:TypeId):zC:=λh=>h=Heap.one b (.cells cs.toArray t (0,0))
section
variable {W w:World} {l l':List Chunk} {P:Program}
theorem PtZ.blk{b:Nat}{cs:List Value}{t:TypeId}(h:SL W l w)(m:Has (.ob (PtZ b cs t)) l):w.heap[b]?=some (.cells cs.toArray t (0,0)):=by
 obtain⟨k,s,x⟩:=h.out
 obtain⟨h1,e,le⟩:=m.heap s
 have e:h1=Heap.one b (.cells cs.toArray t (0,0)):=e
 subst e
 exact x b _ (le b _ (by simp[Heap.one]))
theorem PtZ.cell{b o:Nat}{cs:List Value}{t:TypeId}{v:Value}(h:SL W l w)(m:Has (.ob (PtZ b cs t)) l)(hv:cs[o]?=some v):w.cell? ⟨b,o,none⟩=some v:=by
 simp[World.cell?,PtZ.blk h m,hv]
theorem s_bldZ{z cells:List Value}{ps:List (Nat × Nat × Value)}{e:TypeId}{n:Nat}{K:Value→World→Prop}(hS:SL W l w)(hc:fillL z ps=some cells)
  (h:∀b w',SL W (.ob (PtZ b cells e)::l) w'→K (.slice (some ⟨b,0,none⟩) n n) w'):zo z ps e n w K:=⟨cells,hc,h _ _ (hS.alloc (c:=.ob (PtZ w.heap.size cells e)) rfl)⟩
theorem YD{dT sT ty elem tt:TypeId}{b o dLen dCap m sLen sCap sz:Nat}{a:Addr}{cs cd:List Value}{K:Value→World→Prop}(hS:SL W l w)(hu:P.underlying dT=some (.slice elem))(hs:(P.info? elem).map (·.size)=some sz)
  (hm:Nat.min sLen dLen=m) (hl:cs.length=m*sz) (hsrc:∀j v,cs[j]?=some v→w.cell? (a.add j)=some v) (u:Upd (.pt b cd tt) (.pt b (cd.take o++cs++cd.drop (o+cs.length)) tt) l l') (ho:o+cs.length≤cd.length) (h1:∀v∈cs,v.oneCell'=true)
  (h:∀v w',SL W l' w'→K v w'):zY P (Builtin.copy_ #[dT,sT] ty #[.slice (some ⟨b,o,none⟩) dLen dCap,.slice (some a) sLen sCap]) w K:=by
 have hl':=run_loadCells_list (P:=P) w a cs hsrc
 have hat:∀j,j<cs.length→∃v,cd[o+j]?=some v:=λj hj=>⟨_,List.getElem?_eq_getElem (by omega)⟩
 have hst:=run_storeCells_cells (P:=P) b o cs 0 w (λj hj=>by obtain⟨v,hv⟩:=hat j hj;rw[Nat.add_zero,hS.cell u.has hv];rfl) (λj hj=>by obtain⟨v,hv⟩:=hat j hj;rw[Nat.add_zero];exact hS.frozen u.has hv) h1
 simp only[Nat.add_zero]at hst
 have hr:(Builtin.copy_ #[dT,sT] ty #[.slice (some ⟨b,o,none⟩) dLen dCap,.slice (some a) sLen sCap]).run P w= .ok (goInt m) (w.setCells b o cs):=by
  cases hq:P.info? elem with
  | none=>simp[hq]at hs
  | some i=>
   have hi:i.size=sz:=by simpa [hq] using hs
   simp[Builtin.copy_,run_underlying hu,Builtin.lenOf,Builtin.firstCells,sizeOf,typeInfo,hq,hi,hm,← hl,hl',hst]
 exact⟨_,_,hr,h _ _ (SL.storeN' hS u ho)⟩
theorem s_cap{ty t e:TypeId}{a:Option Addr}{n c:Nat}{K:Value→Prop}(ht:P.underlying t=some (.slice e))(h:K (.int .i64 c)):HRq P (Builtin.cap_ #[t] ty #[.slice a n c]) w K:=
 ⟨_,by simp[Builtin.cap_,run_underlying ht,goInt],h⟩
end
theorem Tryz.infoR:(Tryz.prog.info? 52).map (λi=>(i.zero.map (λz=>z.cells.toList),i.size,i.bytes))=some (some [.int .i64 0,.string ⟨#[]⟩],2,24):=by kernel_rfl
theorem Tryz.zeroR:(Tryz.prog.info? 52).map (λi=>i.zero)=some (some (.agg #[.int .i64 0,.string ⟨#[]⟩])):=by kernel_rfl
theorem sizeR(w:World):(sizeOf 52).run Tryz.prog w= .ok 2 w:=by kernel_rfl
theorem QT{W w:World}{l:List Chunk}{vb b o m vc lb cb:Nat}{cv cs:List Value}{K:Value→World→Prop}(hS:SL W l w)(h1:Has (.ob (PtZ vb cv 52)) l)(h2:Has (.pt b cs 52) l)(hne:vb≠b)(hcs:cs.length≠0)
  (h:K (.bool false) w):qs Tryz.prog 323 [.slice (some ⟨vb,0,none⟩) m vc,.slice (some ⟨b,o,none⟩) lb cb] w K:=by
 have e1:=PtZ.blk hS h1
 obtain⟨f,hf,e2⟩:=hS.blk h2
 have hsa:w.shape? vb=some (52,cv.length):=by simp[World.shape?,e1]
 have hsb:w.shape? b=some (52,cs.length):=by simp[World.shape?,e2]
 have hz:∀x:Addr,x.block=vb→w.frozen? x=false:=λx hx=>by simp only[World.frozen?,hx,e1];simp
 have hr:=Go.Lib.run_overlaps_apart (P:=Tryz.prog) w 53 4 52 Tryz.underlying53 2 sizeR ⟨vb,0,none⟩ ⟨b,o,none⟩ m vc lb cb hne 52 52 cv.length cs.length hsa hsb hcs (hz _ rfl) (hz _ rfl)
 refine⟨.bool false,w,?_,h⟩
 have:=run_callFunc_extern Tryz.func323 (by kernel_rfl) (by kernel_rfl) (by kernel_rfl) (e:=Extern.SlicesOverlaps.overlaps #[53,53] #[4]) (by kernel_rfl) #[.slice (some ⟨vb,0,none⟩) m vc,.slice (some ⟨b,o,none⟩) lb cb] w
 rw[this,hr];rfl
theorem PtZ.ne{W w:World}{l:List Chunk}{b vb:Nat}{cs cv:List Value}{t t':TypeId}(h:SL W (.pt b cs t::.ob (PtZ vb cv t')::l) w):vb≠b:=by
 rintro rfl
 obtain⟨k,⟨h1,h2,s,⟨f,_,rfl⟩,h3,h4,s',e,r⟩,m⟩:=h.out
 have e:h3=Heap.one vb (.cells cv.toArray t' (0,0)):=e
 subst e
 rcases s vb with ⟨a,_⟩|⟨a,_⟩
 ·simp[Heap.one]at a
 ·rcases s' vb with ⟨c,_⟩|⟨_,c⟩
  ·simp[Heap.one]at c
  ·rw[a]at c;simp[Heap.one]at c
theorem put_a(A E x:List Value):(A++E).take A.length++x++(A++E).drop (A.length+x.length)=A++x++E.drop x.length:=by
 rw[List.take_left,← List.drop_drop,List.drop_left]
theorem put_b(A E D:List Value)(k:Nat)(hk:k≤E.length):(A++E).take (A.length+k)++D++(A++E).drop (A.length+k+D.length)=A++(E.take k++D++E.drop (k+D.length)):=by
 rw[List.take_length_add_append,Nat.add_assoc,← List.drop_drop (l:=A++E),List.drop_left];simp
theorem YU(v:Value)(n i vb:Nat)(cells x:List Value)(hi:i≤n)(hx:x.length=2)(hc1:∀v∈cells,v.oneCell'=true)(hx1:∀v∈x,v.oneCell'=true)(hn:n≤1000000):
  SP 278 [v,.int .i64 (i:Int),.slice (some ⟨vb,0,none⟩) 1 1] [.ob (OwnSl v 52 2 n cells),.ob (PtZ vb x 52)] (λu post=>post=[.ob (OwnSl u 52 2 (n+1) (cells.take (i*2)++x++cells.drop (i*2)))]):=by
 intro W F w hS;apply vc278;unfold Vc278;(try simp only[app]at hS)
 have hsrc:∀{l:List Chunk} {w:World},SL W l w→Has (.ob (PtZ vb x 52)) l→∀j u,x[j]?=some u→w.cell? ((⟨vb,0,none⟩:Addr).add j)=some u:=λh m j u e=>by
  rw[Addr.add_lit,Nat.zero_add];exact PtZ.cell h m e
 have hend:i=n→zw 2 24 [.int .i64 0,.string ⟨#[]⟩] 52 v (.slice (some ⟨vb,0,none⟩) 1 1) w λu w=>∃post,(post=[.ob (OwnSl u 52 2 (n+1) (cells.take (i*2)++x++cells.drop (i*2)))])∧SL W (app post F) w:=λe=>by
  subst e
  obtain⟨_,_,_,hlen,_⟩:=OwnSl.at hS Xh
  refine zz (n:=i) (m:=1) hS Xr ⟨rfl,hx,hsrc hS Xh⟩ (by omega) rfl hx1 (by omega) (by omega) ?_
  clear hS;intro u w hS
  rw[List.take_of_length_le (by omega),List.drop_eq_nil_of_le (by omega),List.append_nil]
  exact⟨_,rfl,SL.into hS Xi⟩
 rcases OwnSl.open hS with ⟨⟨a,rfl⟩,rfl,rfl,_⟩|⟨b,cap,rest,rfl,hcap,hlen,hrest,hS0⟩
 ·refine⟨a,0,0,i,0,0,rfl,rfl,rfl,⟨_,rfl⟩,hi,Nat.le_refl _,Nat.le_refl _,?_⟩
  refine yj ?_
  refine Gp ?_
  refine zc (λh=>by omega) (λ_=>?_)
  refine yj ?_
  refine Gp ?_
  exact zc (λh=>hend (by omega)) (λh=>by omega)
 refine⟨_,n,cap,i,n,cap,rfl,rfl,rfl,⟨_,rfl⟩,hi,hcap,Nat.le_refl _,?_⟩
 refine yj ?_
 refine Gp ?_
 refine zc (λh=>by omega) (λ_=>?_)
 refine yj ?_
 refine Gp ?_
 refine zc (λh=>hend (by omega)) (λhne=>?_)
 clear hend hS
 have hS:=hS0
 clear hS0
 have hin:i<n:=by omega
 have hvb:=PtZ.ne hS
 refine Gp ?_
 refine s_cap Tryz.underlying53 ?_
 refine Gp ?_
 obtain⟨A,hA⟩:∃A,A=cells.take (i*2):=⟨_,rfl⟩
 obtain⟨D,hD⟩:∃D,D=cells.drop (i*2):=⟨_,rfl⟩
 have hcd:cells=A++D:=by rw[hA,hD,List.take_append_drop]
 have hAl:A.length=i*2:=by rw[hA,List.length_take];omega
 have hDl:D.length=(n-i)*2:=by rw[hD,List.length_drop];omega
 have hD1:∀v∈D,v.oneCell'=true:=λv hv=>hc1 v (by rw[hcd];exact List.mem_append_right _ hv)
 rw[← hA,← hD]
 have hsz:(Tryz.prog.info? 52).map (·.size)=some 2:=by kernel_rfl
 refine zc (λhg=>?_) (λhg=>?_)
 ·
  have hcn:cap=n:=by omega
  subst hcn
  refine⟨_,cap,cap,0,i,cap,rfl,rfl,⟨_,rfl⟩,rfl,by omega,by omega,by omega,?_⟩
  rw[if_neg (show ¬cap=0 by omega)]
  simp only[Option.map_some,Addr.add_lit,Nat.zero_mul,Nat.add_zero,Nat.sub_zero]
  refine Gp ?_
  rw[show (((cap+1:Nat):Int)-(i:Int))=((cap+1-i:Nat):Int) by omega]
  cases hq:Tryz.prog.info? 52 with
  | none=>rw[hq]at hsz;cases hsz
  | some ti=>
   have hI:=Tryz.infoR
   rw[hq]at hI
   have hZ:=Tryz.zeroR
   rw[hq]at hZ
   simp only[Option.map_some,Option.some.injEq,Prod.mk.injEq]at hI hZ
   obtain⟨_,h2,h3⟩:=hI
   have hold:(Builtin.firstCells ti.size i (.slice (some ⟨b,0,none⟩) i cap)).run Tryz.prog w.drew= .ok A.toArray w.drew:=by
    have hl:=run_loadCells_list (P:=Tryz.prog) w.drew ⟨b,0,none⟩ A λj u hj=>by
     rw[Addr.add_lit,Nat.zero_add]
     refine hS.drew.cell .hd ?_
     rw[hcd,List.append_assoc,List.getElem?_append_left (List.getElem?_eq_some_iff.1 hj).1];exact hj
    rw[hAl]at hl
    rw[h2]
    simp[Builtin.firstCells,hl]
   have hnx:Builtin.nextslicecap (i+(cap+1-i)) cap*ti.bytes≤281474976710656:=growslice_fits (by omega) (by rw[h3];omega)
   have hrun:=Go.Lib.run_append_grow_zeros (P:=Tryz.prog) w 53 3 53 52 ti _ .i64 .i64 Tryz.underlying53 Tryz.underlying3 hq hZ (some ⟨b,0,none⟩) i cap A hold (cap+1-i) (by omega) (by omega) (by omega) (by omega) (by rw[h3];omega) hnx
   refine⟨_,_,hrun,?_⟩
   generalize hcp:grownCap w (i+(cap+1-i)) cap 52=cp
   have hge:cap+1≤cp:=by
    have:=grownCap_ge w (i+(cap+1-i)) cap 52
    omega
   have hz:∀k,Builtin.zeroCells (Value.cells (.agg #[.int .i64 0,.string ⟨#[]⟩])) k=(zrow [.int .i64 0,.string ⟨#[]⟩] k).toArray:=λk=>by
    rw[← zeroCells_row (Value.cells (.agg #[.int .i64 0,.string ⟨#[]⟩])) [.int .i64 0,.string ⟨#[]⟩] rfl k,Array.toArray_toList]
   rw[hz,hz]
   obtain⟨E,hE⟩:∃E:List Value,E=zrow [.int .i64 0,.string ⟨#[]⟩] (cap+1-i)++zrow [.int .i64 0,.string ⟨#[]⟩] (cp-(i+(cap+1-i))):=⟨_,rfl⟩
   have hEl:E.length=(cp-i)*2:=by rw[hE,List.length_append,zrow_length,zrow_length];simp;omega
   have e2:A.toArray++(zrow [.int .i64 0,.string ⟨#[]⟩] (cap+1-i)).toArray++(zrow [.int .i64 0,.string ⟨#[]⟩] (cp-(i+(cap+1-i)))).toArray=(A++E).toArray:=by rw[hE];simp
   rw[e2]
   have hS:=SL.new (cs:=A++E) (t:=52) hS.drew
   clear hrun hold hz e2 hE
   have hnb:w.heap.size=w.drew.heap.size:=rfl
   rw[hnb]
   generalize w.drew.heap.size=nb at *
   generalize (w.drew.alloc (.cells (A++E).toArray 52))=w at *
   have ei:i+(cap+1-i)=cap+1:=by omega
   rw[ei]
   refine⟨_,cap+1,cp,i,cap+1,cp,rfl,rfl,rfl,⟨_,rfl⟩,by omega,hge,Nat.le_refl _,?_⟩
   rw[if_neg (show ¬cp=i by omega)]
   simp only[Option.map_some,Addr.add_lit,Nat.zero_add]
   have e3:=put_a A E x
   rw[hAl]at e3
   refine YD (tt:=52) (l':=.pt nb (A++x++E.drop x.length) 52::.pt b (cells++rest) 52::.ob (PtZ vb x 52)::F) hS Tryz.underlying53 hsz (m:=1) (sz:=2) (Nat.min_eq_left (by omega)) (by omega) (hsrc hS Xh) (by rw[e3];exact Upd.hd) (by rw[List.length_append];omega) hx1 ?_
   clear hS e3
   intro _ w hS
   refine Gn λw hS=>?_
   refine⟨_,cap+1,cp,i+1,cap+1,cp,rfl,rfl,rfl,⟨_,rfl⟩,by omega,hge,Nat.le_refl _,?_⟩
   rw[if_neg (show ¬cp=i+1 by omega)]
   refine⟨_,cap,cap,i,cap,cap,rfl,rfl,rfl,⟨_,rfl⟩,by omega,Nat.le_refl _,Nat.le_refl _,?_⟩
   rw[if_neg (show ¬cap=i by omega)]
   simp only[Option.map_some,Addr.add_lit,Nat.zero_add]
   have e4:=put_a (A++x) (E.drop x.length) D
   have e5:(A++x).length=(i+1)*2:=by rw[List.length_append];omega
   rw[e5]at e4
   have hEd:(E.drop x.length).length=E.length-2:=by rw[List.length_drop,hx]
   refine YD (tt:=52) (l':=.pt nb (A++x++D++(E.drop x.length).drop D.length) 52::.pt b (cells++rest) 52::.ob (PtZ vb x 52)::F) hS Tryz.underlying53 hsz (m:=cap-i) (sz:=2) (Nat.min_eq_left (by omega)) hDl (λj u hj=>?_) (by rw[e4];exact Upd.hd) (by rw[List.length_append,e5,hEd];omega) hD1 ?_
   ·rw[Addr.add_lit]
    refine hS.cell (.tl .hd) ?_
    rw[hcd,List.append_assoc,List.getElem?_append_right (by omega),hAl,Nat.add_sub_cancel_left,List.getElem?_append_left (List.getElem?_eq_some_iff.1 hj).1];exact hj
   clear hS e4
   intro _ w hS
   refine⟨_,rfl,SL.into (OwnSl.mk (sz:=2) (n:=cap+1) (cap:=cp) (cells:=A++x++D) (rest:=(E.drop x.length).drop D.length) hge ?_ ?_ hS) Xi⟩
   ·rw[List.length_append,e5];omega
   ·rw[List.length_drop,hEd];omega
 ·
  have hroom:n+1≤cap:=by omega
  clear hg
  have hrl:2≤rest.length:=by rw[hrest];omega
  refine Gp ?_
  refine⟨_,n,cap,0,n+1,cap,rfl,rfl,⟨_,rfl⟩,rfl,by omega,by omega,by omega,?_⟩
  rw[if_neg (show ¬cap=0 by omega)]
  simp only[Option.map_some,Addr.add_lit,Nat.zero_mul,Nat.add_zero,Nat.sub_zero]
  refine Gp ?_
  refine⟨_,n+1,cap,i+1,n+1,cap,rfl,rfl,rfl,⟨_,rfl⟩,by omega,by omega,by omega,?_⟩
  rw[if_neg (show ¬cap=i+1 by omega)]
  simp only[Option.map_some,Addr.add_lit,Nat.zero_add]
  refine QT hS Xh Xh hvb (by rw[List.length_append];omega) ?_
  refine⟨_,rfl,?_⟩
  refine zy ?_
  refine Gn λw hS=>?_
  refine⟨_,n+1,cap,i+1,n+1,cap,rfl,rfl,rfl,⟨_,rfl⟩,by omega,by omega,by omega,?_⟩
  rw[if_neg (show ¬cap=i+1 by omega)]
  refine⟨_,n+1,cap,i,n+1,cap,rfl,rfl,rfl,⟨_,rfl⟩,by omega,by omega,by omega,?_⟩
  rw[if_neg (show ¬cap=i by omega)]
  simp only[Option.map_some,Addr.add_lit,Nat.zero_add]
  obtain⟨E,hE⟩:∃E,E=D++rest:=⟨_,rfl⟩
  have hEl:E.length=(cap-i)*2:=by rw[hE,List.length_append];omega
  have hAE:cells++rest=A++E:=by rw[hcd,hE,List.append_assoc]
  rw[hAE]at hS
  have e3:=put_b A E D 2 (by omega)
  rw[hAl,show i*2+2=(i+1)*2 by omega]at e3
  refine YD (tt:=52) (l':=.pt b (A++(E.take 2++D++E.drop (2+D.length))) 52::.ob (PtZ vb x 52)::F) hS Tryz.underlying53 hsz (m:=n-i) (sz:=2) (by simp only[Nat.min_def];split<;>omega) hDl (λj u hj=>?_) (by rw[e3];exact Upd.hd) (by rw[List.length_append];omega) hD1 ?_
  ·rw[Addr.add_lit]
   refine hS.cell .hd ?_
   rw[List.getElem?_append_right (by omega),hAl,Nat.add_sub_cancel_left,hE,List.getElem?_append_left (List.getElem?_eq_some_iff.1 hj).1];exact hj
  clear hS e3
  intro _ w hS
  refine⟨_,n+1,cap,i,n+1,cap,rfl,rfl,rfl,⟨_,rfl⟩,by omega,by omega,by omega,?_⟩
  rw[if_neg (show ¬cap=i by omega)]
  simp only[Option.map_some,Addr.add_lit,Nat.zero_add]
  have e4:=put_a A (E.take 2++D++E.drop (2+D.length)) x
  rw[hAl,hx]at e4
  have ht2:(E.take 2).length=2:=by rw[List.length_take];omega
  have e5:(E.take 2++D++E.drop (2+D.length)).drop 2=D++E.drop (2+D.length):=by
   rw[List.append_assoc]
   have:=List.drop_left (l₁:=E.take 2) (l₂:=D++E.drop (2+D.length))
   rwa [ht2]at this
  rw[e5]at e4
  refine YD (tt:=52) (l':=.pt b (A++x++(D++E.drop (2+D.length))) 52::.ob (PtZ vb x 52)::F) hS Tryz.underlying53 hsz (m:=1) (sz:=2) (Nat.min_eq_left (by omega)) (by omega) (hsrc hS Xh) (by rw[hx,e4];exact Upd.hd) (by rw[List.length_append,List.length_append,List.length_append,ht2,List.length_drop];omega) hx1 ?_
  clear hS e4 e5
  intro _ w hS
  rw[← List.append_assoc (A++x)]at hS
  refine⟨_,rfl,SL.into (OwnSl.mk (sz:=2) (n:=n+1) (cap:=cap) (cells:=A++x++D) (rest:=E.drop (2+D.length)) hroom ?_ ?_ hS) Xi⟩
  ·rw[List.length_append,List.length_append];omega
  ·rw[List.length_drop];omega
abbrev ptrA(b:Nat):Value:=.pointer (some ⟨b,0,none⟩)
theorem s_setFO{W w:World}{l:List Chunk}{α:Type}{enc:α→List Value}{v u:Value}{t:TypeId}{sz j i:Nat}{k:IntKind}{xs:List α}{y:α}{K:World→Prop}(hS:SL W (.ob (OwnSl v t sz xs.length (xs.map enc).flatten)::l) w)(hn:∀x,(enc x).length=sz)
  (hj:j<xs.length) (hi:i<sz) (hy:(enc xs[j]).set i u=enc y) (h1:u.oneCell'=true) (hK:∀w',SL W (.ob (OwnSl v t sz (xs.set j y).length ((xs.set j y).map enc).flatten)::l) w'→K w'):zj sz v (.int k (j:Int)) λp=>zd i p λq=>HSt q u w K:=by
 rcases OwnSl.open hS with ⟨_,h0,_⟩|⟨b,cap,rest,rfl,hc,hlen,hrest,hS⟩
 ·omega
 have hlt:j*sz+i<xs.length*sz:=by
  have:(j+1)*sz≤xs.length*sz:=Nat.mul_le_mul_right _ hj
  rw[Nat.add_mul]at this;omega
 refine zE hj (zS ?_)
 rw[Nat.zero_add]
 refine Zc hS .hd (List.getElem?_eq_getElem (by rw[List.length_append];omega)) h1 λw' hS=>hK w' ?_
 rw[List.set_append_left _ _ (by omega),flat_setN hn xs j i hj y u hi hy]at hS
 have hl:(xs.set j y).length=xs.length:=List.length_set
 rw[hl]
 refine OwnSl.mk hc ?_ hrest hS
 rw[flat_len hn,hl]
theorem s_slLoP{W w:World}{l:List Chunk}{v:Value}{t:TypeId}{sz n k:Nat}{kk:IntKind}{cells:List Value}{K:Value→Prop}(h:SL W l w)(mm:Has (.ob (OwnSl v t sz n cells)) l)(hk:k≤n)
  (hK:∀A c,n-k≤c→(∀m c' w' l',m≤n-k→SL W l' w'→Has (.ob (OwnSl v t sz n cells)) l'→srcCells w' sz (.slice A m c') m ((cells.drop (k*sz)).take (m*sz)))→K (.slice A (n-k) c)):HSl sz v (some (.int kk (k:Int))) none none K:=by
 obtain⟨a,cap,rfl,hl,_⟩:=OwnSl.at h mm
 have hcap:n≤cap:=by
  obtain⟨l2,r⟩:=mm.rem
  rcases OwnSl.open (h.perm r.perm) with ⟨⟨a',e⟩,rfl,rfl,_⟩|⟨b,cap',rest,e,hc,_⟩
  ·cases e;omega
  ·cases e;exact hc
 refine⟨a,n,cap,k,n,cap,rfl,rfl,rfl,⟨kk,rfl⟩,hk,hcap,Nat.le_refl _,hK _ _ (by omega) λm c' w' l' hm h' m'=>?_⟩
 obtain⟨a',cap',e,_,hx⟩:=OwnSl.at h' m'
 cases e
 have hdl:((cells.drop (k*sz)).take (m*sz)).length=m*sz:=by
  have:(k+m)*sz≤n*sz:=Nat.mul_le_mul_right _ (by omega)
  rw[Nat.add_mul]at this
  rw[List.length_take,List.length_drop,hl];omega
 rcases Nat.eq_zero_or_pos m with rfl|hm0
 ·have:(cells.drop (k*sz)).take (0*sz)=[]:=by simp
  rw[this]
  generalize (if cap=k then a else a.map (·.add (k*sz)))=A
  cases A with
  | none=>exact⟨rfl,rfl⟩
  | some p=>exact⟨rfl,by simp,λj v e=>by simp at e⟩
 ·obtain⟨b,rfl,h3⟩:=hx 0 (by omega)
  rw[if_neg (show ¬cap=k by omega)]
  refine⟨rfl,hdl,λj v e=>?_⟩
  show w'.cell? (((⟨b,0,none⟩:Addr).add (k*sz)).add j)=some v
  rw[Addr.add_lit,Addr.add_lit]
  refine h3 _ v ?_
  rw[List.getElem?_take]at e
  split at e
  ·rw[List.getElem?_drop]at e
   rw[Nat.zero_add];exact e
  ·cases e
abbrev RwO(v:Value)(l:List Row):Chunk:=.ob (OwnSl v 52 2 l.length (l.map encRow).flatten)
theorem fill_v{z v:Value}(h:v.oneCell'=true):fillL (zrow [z] 1) [(0,1,v)]=some [v]:=by simp[fillL,zrow,one_cells h]
theorem encRow_one1(r:Row):∀v∈encRow r,v.oneCell'=true:=by simp[encRow,Value.oneCell']
theorem encRow_eq(k:Int)(v:ByteArray):encRow ⟨k,v⟩=[.int .i64 k,.string v]:=rfl
def IdxO(x:Nat × List Row):zC:=HEx λv:Value=>zQ True [.pt x.1 [v] 250,RwO v x.2]
theorem IdxO.iff{W w:World}{b:Nat}{C:List Row}{l:List Chunk}:SL W (.ob (IdxO (b,C))::l) w↔∃v,SL W (.pt b [v] 250::RwO v C::l) w:=by
 unfold IdxO
 simp only[SL.ex,SL.fact,List.cons_append,List.nil_append,true_and]
theorem IdxO.put{W w:World}{b:Nat}{C:List Row}{v:Value}{l F:List Chunk}(hS:SL W l w)(p:Pick [.pt b [v] 250,RwO v C] l F):SL W (.ob (IdxO (b,C))::F) w:=IdxO.iff.2 ⟨v,hS.pick p⟩
theorem YY(a:Int):SP 343 [.int .i64 a] [] (Gives (.bool false) []):=by
 intro W F w hS;apply vc343;unfold Vc343;(try simp only[app]at hS)
 refine Gp ?_
 rw[show decide (a≠a)=false by simp]
 (exact⟨_,⟨rfl,rfl⟩,SL.into hS Xi⟩)
def cmpI(a b:Int):Int:=if a<b then -1 else if b<a then 1 else 0
theorem cmpI_lt{a b:Int}:cmpI a b<0↔a<b:=by unfold cmpI;split<;>(try split)<;>omega
theorem cmpI_eq{a b:Int}:cmpI a b=0↔a=b:=by unfold cmpI;split<;>(try split)<;>omega
theorem Q9(a b:Int):SP 299 [.int .i64 a,.int .i64 b] [] (Gives (.int .i64 (cmpI a b)) []):=by
 intro W F w hS;apply vc299;unfold Vc299;(try simp only[app]at hS)
 refine Cg (YY a) λw hS=>?_
 refine Cg (YY b) λw hS=>?_
 refine zc (λh=>?_) (λh=>?_)
 ·rw[show cmpI a b = -1 by unfold cmpI;rw[if_pos h]]
  (exact⟨_,⟨rfl,rfl⟩,SL.into hS Xi⟩)
 refine Gp ?_
 refine zc (λh2=>?_) (λh2=>?_)
 ·rw[show cmpI a b=1 by unfold cmpI;rw[if_neg h,if_pos h2]]
  (exact⟨_,⟨rfl,rfl⟩,SL.into hS Xi⟩)
 ·rw[show cmpI a b=0 by unfold cmpI;rw[if_neg h,if_neg h2]]
  (exact⟨_,⟨rfl,rfl⟩,SL.into hS Xi⟩)
theorem Z7(r:Row)(key:Int):SP 298 [agg (encRow r),.int .i64 key] [] (Gives (.int .i64 (cmpI r.key key)) []):=by
 obtain⟨rk,rv⟩:=r
 intro W F w hS;apply vc298;unfold Vc298;(try simp only[app]at hS)
 refine zJ hS λxb w hS=>?_
 rw[encRow_eq]at hS
 refine Gp ?_
 refine Cg (Q9 rk key) λw hS=>?_
 (exact⟨_,⟨rfl,rfl⟩,SL.into hS Xi⟩)
theorem s_half{i j:Nat}{K:Value→Prop}(h:i+j≤1000000000)(k:K (.int .i64 (((i+j) / 2:Nat):Int))):za .add (.int .i64 i) (.int .i64 j) λa=>zK .u64 a λb=>za .shr b (.int .u64 1) λc=>zK .i64 c K:=by
 refine yd (by omega) (zR ?_)
 rw[IntKind.wrap_u64,show ((i+j:Nat):Int) % 18446744073709551616=((i+j:Nat):Int) by omega]
 have e:((i+j:Nat):Int).fdiv (2 ^ (min (1:Int).toNat IntKind.u64.bits))=(((i+j) / 2:Nat):Int):=by
  rw[show (min (1:Int).toNat IntKind.u64.bits)=1 by decide,Int.fdiv_eq_ediv_of_nonneg _ (by decide)]
  omega
 refine⟨_,by simp only[binVal];rw[if_neg (by decide)],?_⟩
 rw[e]
 exact yC (by omega) k
theorem Q8(v:Value)(C:List Row)(key:Int)(hs:SortedR C)(hn:C.length≤1000000):
  SP 297 [v,.int .i64 key,.func (.func 298) #[] #[]] [RwO v C] (λu post=>∃i,AtR C key i∧u= .tuple #[.int .i64 (i:Nat),.bool (isR C key i)]∧post=[RwO v C]):=by
 intro W F w hS;apply vc297;unfold Vc297;(try simp only[app]at hS)
 refine zx hS Xh ?_
 refine⟨λus w=>∃i j:Nat,us=[.int .i64 i,.int .i64 j]∧i≤j∧j≤C.length∧(∀k (h:k<C.length),k<i→C[k].key<key)∧(∀h:j<C.length,key≤C[j].key)∧SL W (RwO v C::F) w,
  λus _=>match us with|[.int _ i,.int _ j]=>(j-i).toNat|_=>0,⟨0,C.length,rfl,by omega,by omega,λk h hk=>by omega,λh=>by omega,hS⟩,?_⟩
 clear hS
 rintro v9 v10 w ⟨i,j,hus,hij,hj,hlo,hhi,hS⟩
 cases hus
 refine s_lt ?_
 refine zc (λh=>?_) (λh=>?_)
 ·refine s_half (by omega) ?_
  generalize hm:(i+j) / 2=m
  have hmi:i≤m∧m<j:=by omega
  clear hm
  have hml:m<C.length:=by omega
  refine zZ hS Xh encRow_len (x:=C[m]) (by simp[hml]) hml ?_
  refine⟨298,#[],#[],rfl,by decide,?_⟩
  refine Cg (Z7 C[m] key) λw hS=>?_
  refine zc (λh1=>?_) (λh1=>?_)
  ·have h1:=cmpI_lt.1 h1
   refine Gp ?_
   refine⟨⟨m+1,j,rfl,by omega,hj,λk hk hkm=>?_,hhi,hS⟩,by dsimp only;omega⟩
   rcases Nat.lt_or_ge k m with h2|h2
   ·have:=List.pairwise_iff_getElem.1 hs k m hk hml h2
    omega
   ·obtain rfl:k=m:=by omega
    exact h1
  ·have h1:¬C[m].key<key:=λh2=>h1 (cmpI_lt.2 h2)
   exact⟨⟨i,m,rfl,hmi.1,by omega,hlo,λ_=>by omega,hS⟩,by dsimp only;omega⟩
 ·obtain rfl:i=j:=by omega
  have hA:AtR C key i:=⟨hj,hlo,hhi⟩
  refine Gp ?_
  refine zc (λh1=>?_) (λh1=>?_)
  ·have hil:i<C.length:=by omega
   refine zZ hS Xh encRow_len (x:=C[i]) (by simp[hil]) hil ?_
   refine⟨298,#[],#[],rfl,by decide,?_⟩
   refine Cg (Z7 C[i] key) λw hS=>?_
   have e:decide (cmpI C[i].key key=0)=isR C key i:=by
    unfold isR
    rw[decide_eq_decide,cmpI_eq]
    exact⟨λh=>⟨hil,h⟩,λ⟨_,h⟩=>h⟩
   rw[e]
   exact⟨_,⟨i,hA,rfl,rfl⟩,hS⟩
  ·have e:isR C key i=false:=decide_eq_false λ⟨h,_⟩=>h1 (by omega)
   rw[← e]
   exact⟨_,⟨i,hA,rfl,rfl⟩,hS⟩
theorem YP(v:Value)(n i:Nat)(cells:List Value)(hi:i<n)(hc1:∀v∈cells,v.oneCell'=true)(hb:n*24≤140737488355328)(hn:n≤140737488355328):
  SP 327 [v,.int .i64 (i:Int),.int .i64 ((i+1:Nat):Int)] [.ob (OwnSl v 52 2 n cells)] (λu post=>post=[.ob (OwnSl u 52 2 (n-1) (cells.take (i*2)++cells.drop ((i+1)*2)))]):=
 del_gen (z:=[.int .i64 0,.string ⟨#[]⟩]) (zv:=.agg #[.int .i64 0,.string ⟨#[]⟩]) (λv0 v1 v2 w R h=>vc327 v0 v1 v2 w R h) Tryz.underlying53 (λw=>by kernel_rfl) rfl rfl (by simp[Value.oneCell']) v n i cells hi hc1 hb hn
section
variable (b:Nat) (C:List Row) (key:Int) (hs:SortedR C) (hn:C.length≤1000000)
include hs hn
theorem yK(v:Value):SP 240 [ptrA b,.int .i64 key] [.pt b [v] 250,RwO v C] (λu post=>∃i,AtR C key i∧u= .tuple #[.int .i64 (i:Nat),.bool (isR C key i)]∧post=[.pt b [v] 250,RwO v C]):=by
 intro W F w hS;apply vc240;unfold Vc240;(try simp only[app]at hS)
 refine Gp ?_
 (refine Cc (Q8 v C key hs hn) ?_;clear hS)
 rintro u post ⟨i,hA,rfl,rfl⟩ w hS
 (try simp only[app]at hS);refine Gp ?_
 exact⟨_,⟨i,hA,rfl,rfl⟩,SL.into hS Xi⟩
theorem Yb(val:ByteArray):SP 217 [ptrA b,.int .i64 key,.string val] [.ob (IdxO (b,C))] (λu post=>(∃q,u= .bool q)∧post=[.ob (IdxO (b,insR C ⟨key,val⟩))]):=by
 intro W F w hS;apply vc217;unfold Vc217;(try simp only[app]at hS)
 obtain⟨v,hS⟩:=IdxO.iff.1 hS
 (refine Cc (yK b C key hs hn v) ?_;clear hS)
 rintro u post ⟨i,hA,rfl,rfl⟩ w hS
 (try simp only[app]at hS);refine Gp ?_
 have hi:=hA.ins val
 have hle:=hA.le
 cases hk:isR C key i with
 | true=>
  rw[hk,if_pos rfl]at hi
  obtain⟨hil,_⟩:=of_decide_eq_true hk
  refine zy ?_
  refine Gp ?_
  refine s_setFO (enc:=encRow) (y:=⟨key,val⟩) (Has.front hS (l2:=.pt b [v] 250::F) Xr) encRow_len hil (by decide) ?_ rfl λw hS=>?_
  ·obtain⟨_,e⟩:=of_decide_eq_true hk
   rw[← e];rfl
  rw[hi]
  exact⟨_,⟨⟨_,rfl⟩,rfl⟩,IdxO.iff.2 ⟨v,SL.into hS Xi⟩⟩
 | false=>
  rw[hk,if_neg (by decide)]at hi
  refine zt ?_
  (repeat refine Gp ?_)
  refine s_bldZ hS (fill_one (cs:=encRow ⟨key,val⟩) rfl rfl) λvb w hS=>?_
  (refine Cc (YU v C.length i vb (C.map encRow).flatten (encRow ⟨key,val⟩) hle rfl (recs_one encRow_one1 _) (encRow_one1 _) hn) ?_;clear hS)
  rintro u post rfl w hS
  (try simp only[app]at hS)
  have h1:=OwnSl.one hS
  refine Gn λw hS=>?_
  have e:((C.map encRow).flatten.take (i*2)++encRow ⟨key,val⟩++(C.map encRow).flatten.drop (i*2))=((insR C ⟨key,val⟩).map encRow).flatten:=by
   rw[hi,flat_take_n encRow_len,flat_drop_n encRow_len];simp
  have hl:C.length+1=(insR C ⟨key,val⟩).length:=by rw[hi];simp;omega
  rw[e,hl]at hS
  exact⟨_,⟨⟨_,rfl⟩,rfl⟩,IdxO.iff.2 ⟨u,SL.into hS Xi⟩⟩
theorem QG:SP 283 [ptrA b,.int .i64 key] [.ob (IdxO (b,C))] (λu post=>(∃q,u= .bool q)∧post=[.ob (IdxO (b,delR C key))]):=by
 intro W F w hS;apply vc283;unfold Vc283;(try simp only[app]at hS)
 obtain⟨v,hS⟩:=IdxO.iff.1 hS
 (refine Cc (yK b C key hs hn v) ?_;clear hS)
 rintro u post ⟨i,hA,rfl,rfl⟩ w hS
 (try simp only[app]at hS);refine Gp ?_
 have hi:=hA.del hs
 have hle:=hA.le
 cases hk:isR C key i with
 | true=>
  rw[hk,if_pos rfl]at hi
  obtain⟨hil,_⟩:=of_decide_eq_true hk
  refine zy ?_
  refine Gp ?_
  (refine Cc (YP v C.length i (C.map encRow).flatten hil (recs_one encRow_one1 _) (by omega) (by omega)) ?_;clear hS)
  rintro u post rfl w hS
  (try simp only[app]at hS)
  have h1:=OwnSl.one hS
  refine Gn λw hS=>?_
  have e:((C.map encRow).flatten.take (i*2)++(C.map encRow).flatten.drop ((i+1)*2))=((delR C key).map encRow).flatten:=by
   rw[hi,flat_take_n encRow_len,flat_drop_n encRow_len];simp
  have hl:C.length-1=(delR C key).length:=by rw[hi,List.length_append,List.length_take,List.length_drop];omega
  rw[e,hl]at hS
  exact⟨_,⟨⟨_,rfl⟩,rfl⟩,IdxO.iff.2 ⟨u,SL.into hS Xi⟩⟩
 | false=>
  rw[hk,if_neg (by decide)]at hi
  refine zt ?_
  rw[hi]
  exact⟨_,⟨⟨_,rfl⟩,rfl⟩,IdxO.iff.2 ⟨v,SL.into hS Xi⟩⟩
def getV(o:Option ByteArray):Value:=.tuple #[.string (o.getD emp),.bool o.isSome]
theorem QH:SP 224 [ptrA b,.int .i64 key] [.ob (IdxO (b,C))] (Gives (getV (getR C key)) [.ob (IdxO (b,C))]):=by
 intro W F w hS;apply vc224;unfold Vc224;(try simp only[app]at hS)
 obtain⟨v,hS⟩:=IdxO.iff.1 hS
 (refine Cc (yK b C key hs hn v) ?_;clear hS)
 rintro u post ⟨i,hA,rfl,rfl⟩ w hS
 (try simp only[app]at hS);refine Gp ?_
 obtain⟨hg1,hg2⟩:=hA.get hs
 cases hk:isR C key i with
 | true=>
  obtain⟨hil,e⟩:=of_decide_eq_true hk
  refine zt ?_
  refine Gp ?_
  refine zD hS Xh encRow_len (x:=C[i]) (by simp[hil]) hil (i:=1) rfl ?_
  rw[hg2 hil e]
  exact⟨_,⟨rfl,rfl⟩,IdxO.iff.2 ⟨v,SL.into hS Xi⟩⟩
 | false=>
  refine zy ?_
  have e:getR C key=none:=by
   rw[hk]at hg1
   cases hg:getR C key with
   | none=>rfl
   | some x=>rw[hg]at hg1;cases hg1
  rw[e]
  exact⟨_,⟨rfl,rfl⟩,IdxO.iff.2 ⟨v,SL.into hS Xi⟩⟩
theorem YS(n:Int)(h1 : -1000000≤n)(h2:n≤9000000000000000000):SP 171 [ptrA b,.int .i64 key,.int .i64 n] [.ob (IdxO (b,C))] (λu post=>post=[RwO u (afterR C key n),.ob (IdxO (b,C))]):=by
 intro W F w hS;apply vc171;unfold Vc171;(try simp only[app]at hS)
 obtain⟨v,hS⟩:=IdxO.iff.1 hS
 (refine Cc (yK b C key hs hn v) ?_;clear hS)
 rintro u post ⟨i,hA,rfl,rfl⟩ w hS
 (try simp only[app]at hS);refine Gp ?_
 have ha:=hA.after hs n
 have hle:=hA.le
 obtain⟨k,hk⟩:∃k,k=if isR C key i=true then i+1 else i:=⟨_,rfl⟩
 rw[← hk]at ha
 have hkl:k≤C.length:=by
  rw[hk];split
  ·rename_i h
   obtain⟨hil,_⟩:=of_decide_eq_true h
   omega
  ·exact hle
 refine⟨λus w=>us=[.int .i64 (k:Nat)]∧SL W (.pt b [v] 250::RwO v C::F) w,?_,?_⟩
 ·cases hq:isR C key i with
  | true=>
   refine zy ?_
   refine Gp ?_
   exact⟨by rw[hk,hq,if_pos rfl],SL.into hS Xi⟩
  | false=>
   refine zt ?_
   exact⟨by rw[hk,hq,if_neg (by decide)],SL.into hS Xi⟩
 clear hS
 rintro v7 w ⟨hus,hS⟩
 cases hus
 refine Gp ?_
 refine s_slLoP hS Xh hkl λA c hc hsrc=>?_
 refine Gp ?_
 obtain⟨m,hm⟩:∃m,m=min n.toNat (C.length-k):=⟨_,rfl⟩
 have em:max (min n ((C.length-k:Nat):Int)) 0=((m:Nat):Int):=by omega
 rw[em]
 refine⟨A,C.length-k,c,0,m,c,rfl,rfl,⟨_,rfl⟩,rfl,Nat.zero_le _,by omega,Nat.le_refl _,?_⟩
 have eA:(if c=0 then A else A.map (·.add (0*2)))=A:=by
  split
  ·rfl
  ·cases A<;>simp[Addr.add]
 rw[eA,Nat.sub_zero,Nat.sub_zero]
 have ecs:((C.map encRow).flatten.drop (k*2)).take (m*2)=((afterR C key n).map encRow).flatten:=by
  rw[flat_drop_n encRow_len,flat_take_n encRow_len,ha]
  congr 2
  rcases Nat.lt_or_ge n.toNat (C.length-k) with h|h
  ·congr 1;omega
  ·rw[List.take_of_length_le (by rw[List.length_drop];omega),List.take_of_length_le (by rw[List.length_drop];omega)]
 have el:m=(afterR C key n).length:=by rw[ha,List.length_take,List.length_drop];omega
 have hvc:∀v0 w R,VcClone 2 24 [.int .i64 0,.string ⟨#[]⟩] 52 52 v0 w R→HCl 170 [v0] w R:=λv0 w R h=>vc170 v0 w R h
 refine hvc _ _ _ (clone_src (sz:=2) (by_:=24) (z:=[.int .i64 0,.string ⟨#[]⟩]) (t:=52) (ts:=52) (n:=m) (cs:=((afterR C key n).map encRow).flatten) ⟨A,c,rfl⟩ (λw' d h=>?_) (by rw[flat_len encRow_len,← el]) rfl (by decide) (recs_one encRow_one1 _) (by omega) (by omega) hS λu w hS=>?_)
 ·rw[← ecs]
  exact hsrc m c w' _ (by omega) h (.tl Xh)
 ·rw[el]at hS
  exact⟨_,rfl,SL.into (IdxO.put hS Xp) Xi⟩
end
theorem QI(b:Nat)(C:List Row):SP 223 [ptrA b] [.ob (IdxO (b,C))] (Gives (.int .i64 (C.length:Nat)) [.ob (IdxO (b,C))]):=by
 intro W F w hS;apply vc223;unfold Vc223;(try simp only[app]at hS)
 obtain⟨v,hS⟩:=IdxO.iff.1 hS
 refine Gp ?_
 refine zx hS Xh ?_
 exact⟨_,⟨rfl,rfl⟩,IdxO.iff.2 ⟨v,SL.into hS Xi⟩⟩
theorem Ya(H:Heap)(v:Value)(l:List Row)(hv:RdSl H 2 v l.length (l.map encRow).flatten)(hl:l.length≤100000):SP 136 [v] [.mem H] (λu post=>∃b,u=ptrA b∧post=[.ob (IdxO (b,putR [] l)),.mem H]):=by
 intro W F w hS;apply vc136;unfold Vc136;(try simp only[app]at hS)
 refine Gp ?_
 refine zJ hS λxb w hS=>?_
 have hS:SL W (RwO (.slice none 0 0) []::_) _:=OwnSl.nil hS
 have hS:SL W (.ob (IdxO (xb,[]))::.mem H::F) _:=IdxO.iff.2 ⟨_,SL.into hS Xi⟩
 refine zn hv ?_
 refine⟨λus w=>∃i:Nat,us=[.int .i64 i]∧i≤l.length∧SL W (.ob (IdxO (xb,putR [] (l.take i)))::.mem H::F) w,λus _=>match us with|[.int _ i]=>(l.length-i).toNat|_=>0,⟨0,rfl,by omega,hS⟩,?_⟩
 clear hS
 rintro v10 w ⟨i,hus,hi,hS⟩
 cases hus
 refine Gp ?_
 refine zc (λh=>?_) (λh=>?_)
 ·have hil:i<l.length:=by omega
  have hp:=putR_take hil []
  have hst:=putR_sort (l.take i) (C:=[]) List.Pairwise.nil
  have hln:=putR_len (l.take i) []
  rw[List.length_take,List.length_nil]at hln
  refine zU hS Xh encRow_len hv (x:=l[i]) (by simp[hil]) hil ?_
  generalize l[i]=r at *
  have hP:(putR [] (l.take i)).length≤1000000:=by omega
  clear hln
  generalize putR [] (l.take i)=P at *
  obtain⟨rk,rv⟩:=r
  rw[encRow_eq]
  refine Gm λb w hS=>?_
  (refine Cc (Yb xb P rk hst hP rv) ?_;clear hS)
  rintro u post ⟨⟨q,rfl⟩,rfl⟩ w hS
  (try simp only[app]at hS);refine Gp ?_
  rw[← hp]at hS
  exact⟨⟨i+1,rfl,by omega,SL.into hS Xi⟩,by dsimp only;omega⟩
 ·obtain rfl:i=l.length:=by omega
  rw[List.take_length]at hS
  exact⟨_,⟨xb,rfl,rfl⟩,SL.into hS Xi⟩
structure XSeg where
 file:Int
 first:Int
 size:Nat
 es:List BEnt
 a:Option Addr
 c:Nat
def XSeg.lv(x:XSeg):Value:=.slice x.a x.es.length x.c
def XSeg.pl(x:XSeg):PSeg:=⟨x.file,x.first,x.size,byts x.es⟩
def xcells(x:XSeg):List Value:=[.int .i64 x.file,.int .i64 x.first,.int .i64 x.size,x.lv]
theorem xcells_len(x:XSeg):(xcells x).length=4:=rfl
theorem byts_len(es:List BEnt):(byts es).length=es.length:=by simp[byts]
def XSegO(x:XSeg):zC:=zQ True [.ob (OwnSo x.lv 62 1 x.es.length (vals x.es)),.ob (zh BEntO x.es)]
theorem XSegO.iff{W w:World}{x:XSeg}{l:List Chunk}:SL W (.ob (XSegO x)::l) w↔SL W (.ob (OwnSo x.lv 62 1 x.es.length (vals x.es))::.ob (zh BEntO x.es)::l) w:=by
 unfold XSegO
 simp only[SL.fact,List.cons_append,List.nil_append,true_and]
def TornO(v:Value)(t:Option PTorn):zC:=match t with
 | none=>zQ (v= .pointer none) []
 | some x=>HEx λb:Nat=>zQ (v= .pointer (some ⟨b,0,none⟩)) [.pt b [.int .i64 x.file,.int .i64 x.had,.bool x.fresh] 408]
theorem TornO_none{W w:World}{v:Value}{l:List Chunk}:SL W (.ob (TornO v none)::l) w↔v= .pointer none∧SL W l w:=by
 unfold TornO
 simp only[SL.fact,List.nil_append]
theorem TornO_some{W w:World}{v:Value}{x:PTorn}{l:List Chunk}:SL W (.ob (TornO v (some x))::l) w↔∃b:Nat,v= .pointer (some ⟨b,0,none⟩)∧SL W (.pt b [.int .i64 x.file,.int .i64 x.had,.bool x.fresh] 408::l) w:=by
 unfold TornO
 simp only[SL.ex,SL.fact,List.cons_append,List.nil_append]
abbrev lcells(sv tv:Value)(dp:Nat)(base size:Int):List Value:=[sv,.pointer (some ⟨dp,0,none⟩),.int .i64 base,.int .i64 size,tv]
abbrev RowX(sv:Value)(xs:List XSeg):Chunk:=.ob (OwnSo sv 228 4 xs.length (xs.map xcells).flatten)
abbrev LogX(lp dp:Nat)(base size:Int)(t:Option PTorn)(sv tv:Value)(xs:List XSeg):List Chunk:=[.pt lp (lcells sv tv dp base size) 148,RowX sv xs,.ob (zh XSegO xs),.ob (TornO tv t)]
def LogO(lp dp:Nat)(g:PLog):zC:=HEx λx:Value × Value × List XSeg=>zQ (x.2.2.map XSeg.pl=g.segs) (LogX lp dp g.base g.size g.torn x.1 x.2.1 x.2.2)
theorem LogO.iff{W w:World}{lp dp:Nat}{g:PLog}{l:List Chunk}:SL W (.ob (LogO lp dp g)::l) w↔∃sv tv xs,xs.map XSeg.pl=g.segs∧SL W (.pt lp (lcells sv tv dp g.base g.size) 148::RowX sv xs::.ob (zh XSegO xs)::.ob (TornO tv g.torn)::l) w:=by
 unfold LogO LogX
 simp only[SL.ex,SL.fact,List.cons_append,List.nil_append]
 exact⟨λ⟨x,h1,h2⟩=>⟨x.1,x.2.1,x.2.2,h1,h2⟩,λ⟨a,b,c,h1,h2⟩=>⟨(a,b,c),h1,h2⟩⟩
section
variable {W w:World} {l:List Chunk}
theorem YH{v:Value}{xs:List XSeg}{j:Nat}{k:IntKind}{K:Value→Prop}(h:SL W l w)(m:Has (RowX v xs) l)(hj:j<xs.length)(hK:K (.agg (xcells xs[j]).toArray)):zj 4 v (.int k (j:Int)) λp=>zk 4 p w K:=by
 refine yz h m hj λb o hb=>⟨⟨b,o,none⟩,xcells xs[j],rfl,rfl,λi u hu=>?_,hK⟩
 rw[Addr.add_lit]
 have hi:i<4:=(List.getElem?_eq_some_iff.1 hu).1
 exact hb i u hi (flat_get xcells_len hj hu)
theorem s_segF{v u:Value}{xs:List XSeg}{i j:Nat}{k:IntKind}{K:Value→Prop}(h:SL W l w)(m:Has (RowX v xs) l)(hj:j<xs.length)(hu:(xcells xs[j])[i]?=some u)(hK:K u):zj 4 v (.int k (j:Int)) λp=>zd i p λq=>HLd q w K:=by
 refine yz h m hj λb o hb=>?_
 refine zS ?_
 have hi:i<4:=(List.getElem?_eq_some_iff.1 hu).1
 exact⟨_,u,rfl,hb i u hi (flat_get xcells_len hj hu),hK⟩
end
theorem flatX_len(xs:List XSeg):(xs.map xcells).flatten.length=xs.length*4:=by
 induction xs with
 | nil=>rfl
 | cons x xs ih=>simp[ih,xcells_len];omega
theorem yT(f n s:Int)(a:Option Addr)(k c:Nat)(h : -1000000000000000≤n∧n≤1000000000000000)(hk:k≤1000000000000000):SP 152 [.agg #[.int .i64 f,.int .i64 n,.int .i64 s,.slice a k c]] [] (Gives (.int .i64 (n+k)) []):=by
 intro W F w hS;apply vc152;unfold Vc152;(try simp only[app]at hS)
 refine⟨[.int .i64 f,.int .i64 n,.int .i64 s,.slice a k c],rfl,?_⟩
 refine Gm λb w hS=>?_
 (exact⟨_,⟨rfl,rfl⟩,SL.into hS Xi⟩)
theorem ZN(x:XSeg){N:Nat}(h:SegOk x.pl N)(hN:N≤1000000000000000):SP 152 [.agg (xcells x).toArray] [] (Gives (.int .i64 x.pl.next) []):=by
 have h1:=h.n0;have h2:=h.n1;have h3:=h.ln
 have e:x.pl.next=x.first+x.es.length:=by simp[PSeg.next,XSeg.pl,byts_len]
 rw[e]
 have h3:x.es.length≤N:=by simpa [XSeg.pl,byts_len] using h3
 exact yT x.file x.first x.size x.a x.es.length x.c (by simp only[XSeg.pl]at h1 h2;omega) (by omega)
theorem yi(lp:Nat)(cs:List Value)(t:TypeId)(sv:Value)(xs:List XSeg)(hcs:cs[0]?=some sv){N:Nat}(h:∀s∈xs.map XSeg.pl,SegOk s N)(hN:N≤1000000000000000)(hl:xs.length≤1000000000000000):
  SP 69 [.pointer (some ⟨lp,0,none⟩)] [.pt lp cs t,RowX sv xs] (Gives (.int .i64 (headG (xs.map XSeg.pl))) [.pt lp cs t,RowX sv xs]):=by
 intro W F w hS;apply vc69;unfold Vc69;(try simp only[app]at hS)
 refine Gp ?_
 refine ye hS .hd hcs ?_
 refine zV hS Xh ?_
 refine Gp ?_
 have hh:=headG_ge h
 refine zc (λh0=>?_) (λh0=>?_)
 ·have:xs=[]:=List.eq_nil_of_length_eq_zero (by omega)
  subst this
  (exact⟨_,⟨rfl,rfl⟩,SL.into hS Xi⟩)
 ·refine Gn λw hS=>?_
  refine ye hS .hd hcs ?_
  refine Gp ?_
  refine ye hS .hd hcs ?_
  refine zV hS Xh ?_
  refine Gp ?_
  have e:((xs.length:Nat):Int)-1=((xs.length-1:Nat):Int):=by omega
  rw[e]
  have hj:xs.length-1<xs.length:=by omega
  refine YH hS Xh hj ?_
  have hm:(xs[xs.length-1]'hj).pl∈xs.map XSeg.pl:=List.mem_map.2 ⟨_,List.getElem_mem hj,rfl⟩
  have hg:headG (xs.map XSeg.pl)=(xs[xs.length-1]'hj).pl.next-1:=by
   unfold headG
   rw[List.getLast?_map,List.getLast?_eq_getElem?,List.getElem?_eq_getElem hj];rfl
  have hok:=h _ hm
  rw[hg]at hh ⊢
  refine Cg (ZN _ hok hN) λw hS=>?_
  exact⟨_,⟨rfl,rfl⟩,SL.into hS Xi⟩
theorem QN(lp:Nat)(cs:List Value)(t:TypeId)(sv:Value)(xs:List XSeg)(hcs:cs[0]?=some sv)(hl:xs.length≤1000000000000000):
  SP 70 [.pointer (some ⟨lp,0,none⟩)] [.pt lp cs t,RowX sv xs] (Gives (.int .i64 (lowG (xs.map XSeg.pl))) [.pt lp cs t,RowX sv xs]):=by
 intro W F w hS;apply vc70;unfold Vc70;(try simp only[app]at hS)
 refine Gp ?_
 refine ye hS .hd hcs ?_
 refine zV hS Xh ?_
 refine Gp ?_
 refine zc (λh0=>?_) (λh0=>?_)
 ·have:xs=[]:=List.eq_nil_of_length_eq_zero (by omega)
  subst this
  (exact⟨_,⟨rfl,rfl⟩,SL.into hS Xi⟩)
 ·cases xs with
  | nil=>simp at h0
  | cons x xs=>
   refine Gp ?_
   refine ye hS .hd hcs ?_
   refine s_segF (j:=0) (i:=1) hS Xh (by simp) (u:=.int .i64 x.first) rfl ?_
   exact⟨_,⟨rfl,rfl⟩,hS⟩
theorem zh.back{W w:World}{l:List Chunk}{α:Type}{A:α→zC}{xs:List α}{t:Nat}{x:α}(h:SL W (.ob (A x)::.ob (zh A (xs.eraseIdx t))::l) w)(hx:xs[t]?=some x):SL W (.ob (zh A xs)::l) w:=by
 obtain⟨ht,e⟩:=List.getElem?_eq_some_iff.1 hx
 have:=zh.put h ht
 rwa [← e,List.set_getElem_self]at this
theorem xseg_next(x:XSeg):x.pl.next=x.first+x.es.length:=by simp[PSeg.next,XSeg.pl,byts_len]
theorem readG_at(xs:List XSeg)(i:Nat)(n:Int):readG ((xs.drop i).map XSeg.pl) n=match xs[i]? with
 | none=>none
 | some x=>if x.first≤n∧n<x.pl.next then (byts x.es)[(n-x.first).toNat]? else readG ((xs.drop (i+1)).map XSeg.pl) n:=by
 cases h:xs[i]? with
 | none=>
  have:xs.drop i=[]:=List.drop_eq_nil_of_le (by rw[List.getElem?_eq_none_iff]at h;exact h)
  rw[this];rfl
 | some x=>
  obtain⟨hi,e⟩:=List.getElem?_eq_some_iff.1 h
  rw[List.drop_eq_getElem_cons hi,e];rfl
def ReadLQ(pre:List Chunk)(o:Option (List UInt8))(r:Value)(post:List Chunk):Prop:=match o with
 | none=>r= .tuple #[.slice none 0 0,.int .i64 5]∧post=pre
 | some b=>∃u,r= .tuple #[u,.int .i64 0]∧post= .ob (OwnSl u 5 1 b.length (b.map u8c))::pre
theorem qM(lp:Nat)(cs:List Value)(t:TypeId)(sv:Value)(xs:List XSeg)(n:Int)(hcs:cs[0]?=some sv){N:Nat}(h:∀s∈xs.map XSeg.pl,SegOk s N)(hN:N≤1000000000000000)(hl:xs.length≤1000000000000000)(hn : -9000000000000000000≤n∧n≤9000000000000000000):
  SP 71 [.pointer (some ⟨lp,0,none⟩),.int .i64 n] [.pt lp cs t,RowX sv xs,.ob (zh XSegO xs)] (ReadLQ [.pt lp cs t,RowX sv xs,.ob (zh XSegO xs)] (readG (xs.map XSeg.pl) n)):=by
 intro W F w hS;apply vc71;unfold Vc71;(try simp only[app]at hS)
 refine Gp ?_
 refine ye hS .hd hcs ?_
 refine zV hS Xh ?_
 refine⟨λvs w=>∃i:Nat,i≤xs.length∧vs=[.int .i64 i]∧readG (xs.map XSeg.pl) n=readG ((xs.drop i).map XSeg.pl) n∧SL W (.pt lp cs t::RowX sv xs::.ob (zh XSegO xs)::F) w,λvs _=>match vs with
  | [.int _ i]=>xs.length-i.toNat
  | _=>0,⟨0,by omega,rfl,rfl,hS⟩,?_⟩
 clear hS
 rintro v1 w1 ⟨i,hi,hv,hr,hS⟩
 cases hv
 rw[readG_at]at hr
 refine Gp ?_
 refine zc (λh0=>?_) (λh0=>?_)
 ·have hj:i<xs.length:=by omega
  have hx:xs[i]?=some xs[i]:=List.getElem?_eq_getElem hj
  refine YH hS Xh hj ?_
  have hok:=h _ (List.mem_map.2 ⟨_,List.getElem_mem hj,rfl⟩)
  rw[hx]at hr
  simp only at hr
  generalize xs[i]=x at *
  have hnx:=xseg_next x
  unfold xcells XSeg.lv
  refine Gm λb w hS=>?_
  refine zc (λh1=>?_) (λh1=>?_)
  ·refine Gp ?_
   refine Cg (ZN x hok hN) λw hS=>?_
   refine zc (λh2=>?_) (λh2=>?_)
   ·rw[if_pos ⟨h1,h2⟩]at hr
    have hh1:=hok.n0
    have hh2:=hok.n1
    simp only[XSeg.pl]at hh1 hh2
    refine Gp ?_
    obtain⟨j,hjn⟩:=Int.eq_ofNat_of_zero_le (show 0≤n-x.first by omega)
    have hjl:j<x.es.length:=by omega
    rw[hjn]at hr ⊢
    have hS:=zh.take (SL.into hS (t:=.ob (zh XSegO xs)::.pt lp cs t::RowX sv xs::F) Xi) hx
    have hS:=XSegO.iff.1 hS
    unfold XSeg.lv at hS
    refine yz (j:=j) hS .hd hjl λb o hb=>?_
    have hej:x.es[j]?=some x.es[j]:=List.getElem?_eq_getElem hjl
    have hval:(vals x.es)[j*1+0]?=some x.es[j].1:=by simp[vals,hjl]
    refine⟨_,_,rfl,hb 0 _ (by omega) hval,?_⟩
    have hS:=zh.take (SL.into hS (t:=.ob (zh BEntO x.es)::.ob (OwnSo (.slice x.a x.es.length x.c) 62 1 x.es.length (vals x.es))::.ob (zh XSegO (xs.eraseIdx i))::.pt lp cs t::RowX sv xs::F) Xi) hej
    have hbl:x.es[j].2.length≤1048576:=hok.bl _ (List.mem_map.2 ⟨_,List.getElem_mem hjl,rfl⟩)
    have hby:(byts x.es)[((j:Int)).toNat]?=some x.es[j].2:=by simp[byts,hjl]
    rw[hby]at hr
    rw[hr]
    generalize x.es[j]=e at *
    have hR:Rdb (.ob (BEntO e)) e.1 e.2:=Rdb.own
    obtain⟨ea,ec,ee,_⟩:=hR.sl hS .hd
    have hR2:=hR
    rw[ee]at hR2 ⊢
    refine Zj (cs:=e.2.map u8c) hS (λw' c hS'=>hR2.src hS' (.tl .hd)) (by simp) (u8c_one _) (by omega) ?_
    clear hS;intro u w hS _
    have hS:=zh.back (SL.into hS (t:=.ob (BEntO e)::.ob (zh BEntO (x.es.eraseIdx j))::.ob (OwnSo (.slice x.a x.es.length x.c) 62 1 x.es.length (vals x.es))::.ob (OwnSl u 5 1 e.2.length (e.2.map u8c))::.ob (zh XSegO (xs.eraseIdx i))::.pt lp cs t::RowX sv xs::F) Xi) hej
    have hS:=(XSegO.iff (x:=x)).2 (SL.into hS (t:=.ob (OwnSo (.slice x.a x.es.length x.c) 62 1 x.es.length (vals x.es))::.ob (zh BEntO x.es)::.ob (OwnSl u 5 1 e.2.length (e.2.map u8c))::.ob (zh XSegO (xs.eraseIdx i))::.pt lp cs t::RowX sv xs::F) Xi)
    have hS:=zh.back (SL.into hS (t:=.ob (XSegO x)::.ob (zh XSegO (xs.eraseIdx i))::.ob (OwnSl u 5 1 e.2.length (e.2.map u8c))::.pt lp cs t::RowX sv xs::F) Xi) hx
    exact⟨.ob (OwnSl u 5 1 e.2.length (e.2.map u8c))::[.pt lp cs t,RowX sv xs,.ob (zh XSegO xs)],⟨u,rfl,rfl⟩,SL.into hS Xi⟩
   ·rw[if_neg (by omega)]at hr
    refine Gp ?_
    refine⟨⟨i+1,by omega,rfl,hr,SL.into hS Xi⟩,?_⟩
    simp only[Int.toNat_natCast];omega
  ·rw[if_neg (by omega)]at hr
   refine Gp ?_
   refine⟨⟨i+1,by omega,rfl,hr,SL.into hS Xi⟩,?_⟩
   simp only[Int.toNat_natCast];omega
 ·have hx:xs[i]?=none:=List.getElem?_eq_none (by omega)
  rw[hx]at hr
  rw[hr]
  exact⟨_,⟨rfl,rfl⟩,hS⟩
def encOne(p:Nat × List Row):List Value:=[ptrA p.1]
theorem encOne_len(p:Nat × List Row):(encOne p).length=1:=rfl
abbrev OnO(v:Value)(L:List (Nat × List Row)):Chunk:=.ob (OwnSl v 162 1 L.length (L.map encOne).flatten)
def TabO(sp:Nat)(ts:List (List Row)):zC:=HEx λx:Value × List (Nat × List Row)=>zQ (x.2.map Prod.snd=ts) [.pt sp [x.1] 165,OnO x.1 x.2,.ob (zh IdxO x.2)]
theorem TabO.iff{W w:World}{sp:Nat}{ts:List (List Row)}{l:List Chunk}:SL W (.ob (TabO sp ts)::l) w↔∃v L,L.map Prod.snd=ts∧SL W (.pt sp [v] 165::OnO v L::.ob (zh IdxO L)::l) w:=by
 unfold TabO
 simp only[SL.ex,SL.fact,List.cons_append,List.nil_append]
 exact⟨λ⟨x,h1,h2⟩=>⟨x.1,x.2,h1,h2⟩,λ⟨v,L,h1,h2⟩=>⟨(v,L),h1,h2⟩⟩
theorem TabO.put{W w:World}{sp:Nat}{v:Value}{L:List (Nat × List Row)}{ts:List (List Row)}{l F:List Chunk}(hL:L.map Prod.snd=ts)(hS:SL W l w)(p:Pick [.pt sp [v] 165,OnO v L,.ob (zh IdxO L)] l F):SL W (.ob (TabO sp ts)::F) w:=TabO.iff.2 ⟨v,L,hL,hS.pick p⟩
theorem snd_len{L:List (Nat × List Row)}{ts:List (List Row)}(h:L.map Prod.snd=ts):L.length=ts.length:=by rw[← h,List.length_map]
theorem snd_at{L:List (Nat × List Row)}{ts:List (List Row)}(h:L.map Prod.snd=ts){i:Nat}(hi:i<ts.length):∃b,L[i]?=some (b,ts[i]):=by
 subst h
 have hl:i<L.length:=by simpa using hi
 exact⟨L[i].1,by rw[List.getElem?_eq_getElem hl];simp⟩
theorem snd_set{L:List (Nat × List Row)}{ts:List (List Row)}(h:L.map Prod.snd=ts)(i:Nat)(b:Nat)(C:List Row):(L.set i (b,C)).map Prod.snd=ts.set i C:=by
 rw[← h,List.map_set]
theorem one_set{L:List (Nat × List Row)}{i b:Nat}{C D:List Row}(h:L[i]?=some (b,C)):(L.set i (b,D)).map encOne=L.map encOne:=by
 refine List.ext_getElem (by simp) λj h1 h2=>?_
 simp only[List.length_map,List.length_set]at h1
 rw[List.getElem_map,List.getElem_map,List.getElem_set]
 split
 ·rename_i e
  subst e
  rw[List.getElem?_eq_getElem h1]at h
  rw[Option.some.inj h];rfl
 ·rfl
theorem OnO.set{W w:World}{v:Value}{L:List (Nat × List Row)}{i b:Nat}{C D:List Row}{l:List Chunk}(h:L[i]?=some (b,C))(hS:SL W (OnO v L::l) w):SL W (OnO v (L.set i (b,D))::l) w:=by
 have e:=one_set (D:=D) h
 have e2:(L.set i (b,D)).length=L.length:=List.length_set
 unfold OnO
 rw[e,e2];exact hS
section
variable (sp:Nat) (ts:List (List Row))
theorem yQ:SP 59 [ptrA sp] [.ob (TabO sp ts)] (Gives (.int .i64 (ts.length:Nat)) [.ob (TabO sp ts)]):=by
 intro W F w hS;apply vc59;unfold Vc59;(try simp only[app]at hS)
 obtain⟨v,L,hL,hS⟩:=TabO.iff.1 hS
 rw[← snd_len hL]
 refine Gp ?_
 refine zx hS Xh ?_
 exact⟨_,⟨rfl,rfl⟩,SL.into (TabO.put hL hS Xp) Xi⟩
theorem y6(t:Int):SP 81 [ptrA sp,.int .i64 t] [.ob (TabO sp ts)] (Gives (.bool (decide (0≤t∧t<ts.length))) [.ob (TabO sp ts)]):=by
 intro W F w hS;apply vc81;unfold Vc81;(try simp only[app]at hS)
 obtain⟨v,L,hL,hS⟩:=TabO.iff.1 hS
 have hl:=snd_len hL
 refine Gp ?_
 refine zc (λh=>?_) (λh=>?_)
 ·refine Gp ?_
  refine zx hS Xh ?_
  refine Gp ?_
  rw[show decide (0≤t∧t<(ts.length:Int))=decide (t<(L.length:Int)) from decide_eq_decide.2 ⟨λh=>by omega,λh=>by omega⟩]
  exact⟨_,⟨rfl,rfl⟩,SL.into (TabO.put hL hS Xp) Xi⟩
 ·rw[show decide (0≤t∧t<(ts.length:Int))=false from decide_eq_false λh=>by omega]
  exact⟨_,⟨rfl,rfl⟩,SL.into (TabO.put hL hS Xp) Xi⟩
theorem tabAt_out{ts:List (List Row)}{t:Int}(h:¬(0≤t∧t<ts.length)):tabAt ts t=[]:=by
 unfold tabAt
 split
 ·rfl
 ·rw[List.getElem?_eq_none (by omega)];rfl
theorem qm(t key n:Int)(hn:∀C∈ts,C.length≤1000000)(hs:∀C∈ts,SortedR C)(h1 : -1000000≤n)(h2:n≤9000000000000000000):SP 83 [ptrA sp,.int .i64 t,.int .i64 key,.int .i64 n] [.ob (TabO sp ts)] (λu post=>post=[RwO u (afterR (tabAt ts t) key n),.ob (TabO sp ts)]):=by
 intro W F w hS;apply vc83;unfold Vc83;(try simp only[app]at hS)
 refine Cg (y6 sp ts t) λw hS=>?_
 refine zA (λh=>?_) (λh=>?_)
 ·rw[tabAt_out (of_decide_eq_false h),show afterR [] key n=[] by simp[afterR]]
  exact⟨_,rfl,OwnSl.nil hS⟩
 ·obtain⟨h0,h3⟩:=of_decide_eq_true h
  obtain⟨t,rfl⟩:∃n:Nat,t=n:=⟨t.toNat,by omega⟩
  have ht:t<ts.length:=by omega
  rw[tabAt_nat ts t ht]
  obtain⟨v,L,hL,hS⟩:=TabO.iff.1 hS
  obtain⟨b,hb⟩:=snd_at hL ht
  have hl:=snd_len hL
  refine Gp ?_
  refine zD hS Xh encOne_len hb (by omega) (i:=0) rfl ?_
  have hS:=zh.take (SL.into hS (t:=.ob (zh IdxO L)::.pt sp [v] 165::OnO v L::F) Xi) hb
  (refine Cc (YS b ts[t] key (hs _ (List.getElem_mem ht)) (hn _ (List.getElem_mem ht)) n h1 h2) ?_;clear hS)
  rintro u post rfl w hS
  (try simp only[app]at hS)
  have hS:=zh.back (SL.into hS (t:=.ob (IdxO (b,ts[t]))::.ob (zh IdxO (L.eraseIdx t))::RwO u (afterR ts[t] key n)::.pt sp [v] 165::OnO v L::F) Xi) hb
  exact⟨_,rfl,SL.into (TabO.put hL hS Xp) Xi⟩
end
def NewTQ(n:Int)(u:Value)(post:List Chunk):Prop:=if n<1∨8<n then u= .tuple #[.pointer none,.int .i64 1]∧post=[] else ∃sp,u= .tuple #[ptrA sp,.int .i64 0]∧post=[.ob (TabO sp (List.replicate n.toNat []))]
theorem Q4(n:Int):SP 54 [.int .i64 n] [] (NewTQ n):=by
 intro W F w hS;apply vc54;unfold Vc54;(try simp only[app]at hS)
 refine Gp ?_
 refine zc (λh=>⟨[],by unfold NewTQ;rw[if_pos (.inl h)];exact⟨rfl,rfl⟩,hS⟩) (λh1=>?_)
 refine Gp ?_
 refine zc (λh=>⟨[],by unfold NewTQ;rw[if_pos (.inr h)];exact⟨rfl,rfl⟩,hS⟩) (λh2=>?_)
 refine Gp ?_
 refine zJ hS λsp w hS=>?_
 have hS:SL W (OnO (.slice none 0 0) []::_) _:=OwnSl.nil hS
 have hS:SL W (.ob (zh IdxO [])::_) _:=zh.nil hS
 refine⟨λus w=>∃(i:Nat) (v:Value) (L:List (Nat × List Row)),us=[.int .i64 i]∧i≤n∧L.map Prod.snd=List.replicate i []∧SL W (.pt sp [v] 165::OnO v L::.ob (zh IdxO L)::F) w,
  λus _=>match us with|[.int _ i]=>(n-i).toNat|_=>0,⟨0,_,[],rfl,by omega,rfl,SL.into hS Xi⟩,?_⟩
 clear hS
 rintro v14 w ⟨i,v,L,hus,hi,hL,hS⟩
 cases hus
 have hl:=snd_len hL
 rw[List.length_replicate]at hl
 refine Gp ?_
 refine zc (λh=>?_) (λh=>?_)
 ·refine Gn λw hS=>?_
  have hS:=SL.memNil hS
  (refine Cc (Ya Heap.emp (.slice none 0 0) [] (RdSl.nil _ _) (by decide)) ?_;clear hS)
  rintro u post ⟨xb,rfl,rfl⟩ w hS
  refine Gm λb w hS=>?_
  refine yr (n:=L.length) (xs:=L) (y:=(xb,[])) (enc:=encOne) hS Xr Xh encOne_len (λx=>by simp[encOne,Value.oneCell']) rfl (by omega) (by omega) λu w hS=>?_
  have hv1:=OwnSl.one hS
  refine Gn λw hS=>?_
  refine⟨⟨i+1,u,L++[(xb,[])],rfl,by omega,by rw[List.map_append,hL,List.replicate_succ'];rfl,?_⟩,by dsimp only;omega⟩
  have hS:=hS.snocL (x:=(xb,([]:List Row)))
  rw[show putR [] []=[] from rfl]at hS
  have hS:=zh.snoc (SL.into hS (t:=.ob (zh IdxO L)::.ob (IdxO (xb,[]))::.pt sp [u] 165::OnO u (L++[(xb,[])])::F) Xi)
  exact SL.into hS Xi
 ·refine⟨[.ob (TabO sp (List.replicate n.toNat []))],?_,SL.into (TabO.put (ts:=List.replicate n.toNat []) (by rw[hL];congr 1;omega) hS Xp) Xi⟩
  unfold NewTQ
  rw[if_neg (by omega)]
  exact⟨sp,rfl,rfl⟩
theorem appTs_sort{ts:List (List Row)}(h:∀C∈ts,SortedR C){c:Chg}(ht:chgIn ts.length c=true):∀C∈appTs ts c,SortedR C:=λC hC=>by
 rcases mem_appTs hC with hC|rfl
 ·exact h C hC
 ·have h1:=h _ (tabAt_mem (of_decide_eq_true ht))
  unfold rowApp
  split
  ·exact sorted_delR h1 _
  ·exact sorted_insR h1 _
theorem appsTs_sort:∀{l:List Chg} {ts:List (List Row)},(∀C∈ts,SortedR C)→(∀c∈l,chgIn ts.length c=true)→∀C∈appsTs ts l,SortedR C
 | [],ts,h,_=>h
 | c::l,ts,h,h2=>by
  show ∀C∈appsTs (appTs ts c) l,SortedR C
  refine appsTs_sort (appTs_sort h (h2 c (.head _))) λx hx=>?_
  rw[appTs_len];exact h2 x (.tail _ hx)
theorem tdo_spec(b:Nat)(C D:List Row)(c:Chg)(hs:SortedR C)(hn:C.length≤1000000):SP 221 [agg (encOne (b,D)),agg (encChg c)] [.ob (IdxO (b,C))] (λ_ post=>post=[.ob (IdxO (b,rowApp C c))]):=by
 intro W F w hS;apply vc221;unfold Vc221;(try simp only[app]at hS)
 refine zJ hS λxb w hS=>?_
 refine zJ hS λyb w hS=>?_
 unfold encChg encOne at hS
 obtain⟨ct,ck,cg,cv⟩:=c
 refine Gp ?_
 cases cg with
 | true=>
  refine zy ?_
  refine Gp ?_
  (refine Cc (QG b C ck hs hn) ?_;clear hS)
  rintro u post ⟨⟨q,rfl⟩,rfl⟩ w hS
  (try simp only[app]at hS)
  have hS:SL W (.ob (IdxO (b,rowApp C ⟨ct,ck,true,cv⟩))::_::_::F) _:=hS
  exact⟨_,rfl,SL.into hS Xi⟩
 | false=>
  refine zt ?_
  refine Gp ?_
  (refine Cc (Yb b C ck hs hn cv) ?_;clear hS)
  rintro u post ⟨⟨q,rfl⟩,rfl⟩ w hS
  (try simp only[app]at hS)
  have hS:SL W (.ob (IdxO (b,rowApp C ⟨ct,ck,false,cv⟩))::_::_::F) _:=hS
  exact⟨_,rfl,SL.into hS Xi⟩
section
variable (sp:Nat) (ts:List (List Row)) (H:Heap) (v:Value) (l:List Chg) (hv:RdSl H 4 v l.length (l.map encChg).flatten) (hl:l.length≤140737488351232)
include hv hl
theorem Yq:SP 220 [ptrA sp,v] [.ob (TabO sp ts),.mem H] (Gives (.bool (l.all (chgIn ts.length))) [.ob (TabO sp ts),.mem H]):=by
 intro W F w hS;apply vc220;unfold Vc220;(try simp only[app]at hS)
 refine zn hv ?_
 refine⟨λus w=>∃i:Nat,us=[.int .i64 i]∧i≤l.length∧(∀j (h:j<l.length),j<i→chgIn ts.length l[j]=true)∧SL W (.ob (TabO sp ts)::.mem H::F) w,λus _=>match us with|[.int _ i]=>(l.length-i).toNat|_=>0,⟨0,rfl,by omega,λj h hj=>by omega,hS⟩,?_⟩
 clear hS
 rintro v9 w ⟨i,hus,hi,hall,hS⟩
 cases hus
 refine Gp ?_
 refine zc (λh=>?_) (λh=>?_)
 ·have hil:i<l.length:=by omega
  refine zU hS Xh encChg_len hv (x:=l[i]) (by simp[hil]) hil ?_
  have hq:chgIn ts.length l[i]=decide (0≤l[i].table∧l[i].table<(ts.length:Int)):=rfl
  have hf:chgIn ts.length l[i]=false→l.all (chgIn ts.length)=false:=λh=>List.all_eq_false.2 ⟨_,List.getElem_mem hil,by rw[h];decide⟩
  have hall2:chgIn ts.length l[i]=true→∀j (h:j<l.length),j<i+1→chgIn ts.length l[j]=true:=λh j hj hji=>by
   by_cases e:j=i
   ·subst e;exact h
   ·exact hall j hj (by omega)
  clear hall
  generalize l[i]=c at *
  obtain⟨ct,ck,cg,cv⟩:=c
  refine Gm λb w hS=>?_
  refine Cg (y6 sp ts ct) λw hS=>?_
  refine zA (λhb=>?_) (λhb=>?_)
  ·rw[hf (by rw[hq];exact hb)]
   (exact⟨_,⟨rfl,rfl⟩,SL.into hS Xi⟩)
  ·refine Gp ?_
   refine⟨⟨i+1,rfl,by omega,hall2 (by rw[hq];exact hb),SL.into hS Xi⟩,by dsimp only;omega⟩
 ·rw[show l.all (chgIn ts.length)=true from List.all_eq_true.2 λc hc=>by
   obtain⟨j,hj,rfl⟩:=List.getElem_of_mem hc
   exact hall j hj (by omega)]
  (exact⟨_,⟨rfl,rfl⟩,SL.into hS Xi⟩)
theorem ZA(hs:∀C∈ts,SortedR C)(N:Nat)(hn:∀C∈ts,C.length≤N)(hN:N+l.length≤1000000):SP 142 [ptrA sp,v] [.ob (TabO sp ts),.mem H] (Gives (.bool (l.all (chgIn ts.length))) [.ob (TabO sp (if l.all (chgIn ts.length)=true then appsTs ts l else ts)),.mem H]):=by
 intro W F w hS;apply vc142;unfold Vc142;(try simp only[app]at hS)
 refine Cg (Yq sp ts H v l hv hl) λw hS=>?_
 cases ha:l.all (chgIn ts.length) with
 | false=>
  refine zy ?_
  rw[if_neg (by decide)]
  (exact⟨_,⟨rfl,rfl⟩,SL.into hS Xi⟩)
 | true=>
  refine zt ?_
  rw[if_pos rfl]
  have ha:=List.all_eq_true.1 ha
  refine zn hv ?_
  refine⟨λus w=>∃i:Nat,us=[.int .i64 i]∧i≤l.length∧SL W (.ob (TabO sp (appsTs ts (l.take i)))::.mem H::F) w,λus _=>match us with|[.int _ i]=>(l.length-i).toNat|_=>0,⟨0,rfl,by omega,hS⟩,?_⟩
  clear hS
  rintro v13 w ⟨i,hus,hi,hS⟩
  cases hus
  refine Gp ?_
  refine zc (λh=>?_) (λh=>?_)
  ·have hil:i<l.length:=by omega
   have hst:appsTs ts (l.take (i+1))=appTs (appsTs ts (l.take i)) l[i]:=by rw[List.take_succ_eq_append_getElem hil,appsTs_snoc]
   have hin:=ha _ (List.getElem_mem hil)
   have hTl:=appsTs_len ts (l.take i)
   have hTs:=appsTs_sort (l:=l.take i) hs λc hc=>ha c (List.mem_of_mem_take hc)
   have hTn:=appsTs_lenR N (l:=l.take i) hn λc hc=>ha c (List.mem_of_mem_take hc)
   have htl:(l.take i).length≤l.length:=by rw[List.length_take];omega
   generalize appsTs ts (l.take i)=T at *
   refine zU hS Xh encChg_len hv (x:=l[i]) (by simp[hil]) hil ?_
   generalize l[i]=c at *
   obtain⟨ct,ck,cg,cv⟩:=c
   obtain⟨h0,h1⟩:0≤ct∧ct<(ts.length:Int):=of_decide_eq_true hin
   obtain⟨t,rfl⟩:∃n:Nat,ct=n:=⟨ct.toNat,by omega⟩
   have ht:t<T.length:=by omega
   have htm:T[t]∈T:=List.getElem_mem ht
   obtain⟨pv,L,hL,hS⟩:=TabO.iff.1 hS
   obtain⟨b0,hb⟩:=snd_at hL ht
   have hLl:=snd_len hL
   refine Gm λb w hS=>?_
   refine zZ hS Xh encOne_len hb (by omega) ?_
   refine Gp ?_
   have hS:=zh.take (SL.into hS (t:=.ob (zh IdxO L)::.pt sp [pv] 165::OnO pv L::.mem H::F) Xi) hb
   (refine Cc (tdo_spec b0 T[t] T[t] ⟨t,ck,cg,cv⟩ (hTs _ htm) (by have:=hTn _ htm;omega)) ?_;clear hS)
   rintro u post rfl w hS
   (try simp only[app]at hS);refine Gp ?_
   have hS:=zh.put hS (by omega)
   have hS:=OnO.set (D:=rowApp T[t] ⟨t,ck,cg,cv⟩) hb (SL.into hS (t:=OnO pv L::.ob (zh IdxO (L.set t (b0,rowApp T[t] ⟨t,ck,cg,cv⟩)))::.pt sp [pv] 165::.mem H::F) Xi)
   refine⟨⟨i+1,rfl,by omega,?_⟩,by dsimp only;omega⟩
   rw[hst]
   refine SL.into (TabO.put (ts:=appTs T ⟨t,ck,cg,cv⟩) ?_ hS Xp) Xi
   rw[snd_set hL t b0]
   unfold appTs
   rw[tabAt_nat T t ht]
   rfl
  ·obtain rfl:i=l.length:=by omega
   rw[List.take_length]at hS
   (exact⟨_,⟨rfl,rfl⟩,SL.into hS Xi⟩)
end
structure KeyRun{κ:Type}[DecidableEq κ](P:Program)(kt:TypeId)(key:κ→Value):Prop where
 wide:∃fs,P.underlying kt=some (.struct fs)
 check:∀(k:κ) (em:Bool) (w:World),(Instr.checkKey em 10000 kt (key k)).run P w= .ok () w
 eq:∀(a b:κ) (w:World),(Op.equal kt (key a) (key b)).run P w= .ok (decide (a=b)) w
 stays:∀(k:κ) (w:World),(Instr.keyThatStays (key k) (key k)).run P w= .ok (key k) w
 inj:∀{a b:κ},key a=key b→a=b
section
variable {W w:World} {l l':List Chunk} {κ α:Type} [DecidableEq κ] {key:κ→Value} {val:α→Value} {b:Nat} {m:List (κ × α)} {P:Program} {t kt et:TypeId} {z:Value} {k:κ}
theorem findKey_ask(ok:KeyRun P kt key)(k:κ)(es:List MapEntry):(Instr.findKey kt (key k) es).run P w=(Instr.findAsking kt (key k) es).run P w:=by
 obtain⟨fs,hd⟩:=ok.wide
 cases es with
 | nil=>simp[Instr.findKey,run_underlying hd,Result.andThen,Instr.findNow,Instr.findAsking]
 | cons e es=>simp[Instr.findKey,run_underlying hd,Result.andThen,Instr.findNow,Instr.sameNow]
theorem find_relW(ok:KeyRun P kt key)(k:κ):∀(es:List MapEntry) (m:List (κ × α)) (i:Nat),es.map kv=m.map (kw key val) →
  ((Instr.findAsking kt (key k) es i).run P w= .ok none w∧mget m k=none∧(∀v,mset m k v=m++[(k,v)])∧∀x∈es,x.key≠key k) ∨
  ∃j e a,(Instr.findAsking kt (key k) es i).run P w= .ok (some (i+j,val a)) w∧es[j]?=some e∧e.key=key k∧mget m k=some a ∧
   (∀v,(es.modify j λe=>{e with key:=key k,val:=val v}).map kv=(mset m k v).map (kw key val))
 | [],[],_,_=>.inl ⟨rfl,rfl,λ_=>rfl,by simp⟩
 | [],_::_,_,h=>by simp at h
 | _::_,[],_,h=>by simp at h
 | e::es,p::m,i,h=>by
  simp only[List.map_cons,List.cons.injEq]at h
  obtain⟨h1,h2⟩:=h
  obtain⟨x,y⟩:=p
  simp only[kv,kw,Prod.mk.injEq]at h1
  obtain⟨h1k,h1v⟩:=h1
  have hq:=ok.eq k x w
  by_cases hx:x=k
  ·subst hx
   rw[decide_eq_true rfl]at hq
   refine .inr ⟨0,e,y,by simp[Instr.findAsking,h1k,hq,h1v,Result.andThen],rfl,h1k,by simp[mget],?_⟩
   intro v;simp[mset,kv,kw];exact h2
  ·rw[decide_eq_false (λh=>hx h.symm)]at hq
   rcases find_relW ok k es m (i+1) h2 with ⟨a1,a2,a3,a5⟩|⟨j,e',a,a1,a2,a3,a4,a5⟩
   ·refine .inl ⟨by simp[Instr.findAsking,h1k,hq,a1,Result.andThen],by simp[mget,hx,a2],λv=>by simp[mset,hx,a3],?_⟩
    intro z hz
    rcases List.mem_cons.1 hz with rfl|hz
    ·rw[h1k];exact λq=>hx (ok.inj q)
    ·exact a5 z hz
   ·refine .inr ⟨j+1,e',a,by simp[Instr.findAsking,h1k,hq,a1,Result.andThen];omega,by simpa using a2,a3,by simp[mget,hx,a4],?_⟩
    intro v;simp[mset,hx,kv,kw,h1k,h1v];exact a5 v
theorem s_mapOkW{K:Value→Prop}(hS:SL W l w)(hm:Has (.ob (MapO key val b m)) l)(ok:KeyRun P kt key)(ht:P.underlying t=some (.map kt et))(hz:∀w,(zeroValue et).run P w= .ok z w)
  (h:K (.tuple #[((mget m k).map val).getD z,.bool (mget m k).isSome])):HRq P (Instr.lookup t (.map (some b)) (key k) true) w K:=by
 obtain⟨es,c,e1,e2,hb⟩:=hS.mapAt hm
 rcases find_relW (w:=w) ok k es m 0 e1 with ⟨a1,a2,_,_⟩|⟨j,e,a,a1,_,_,a4,_⟩
 ·refine⟨_,?_,h⟩
  simp[Instr.lookup,run_underlying ht,MapKept.run_getObj_map hb,ok.check,findKey_ask ok,a1,hz,Result.andThen,a2]
 ·refine⟨_,?_,h⟩
  simp[Instr.lookup,run_underlying ht,MapKept.run_getObj_map hb,ok.check,findKey_ask ok,a1,Result.andThen,a4]
theorem Q1{v:α}{K:Value→World→Prop}(hS:SL W l w)(u:Upd (.ob (MapO key val b m)) (.ob (MapO key val b (mset m k v))) l l')(ok:KeyRun P kt key)(ht:P.underlying t=some (.map kt et))
  (h:∀u w',SL W l' w'→K u w'):zY P (do Instr.mapUpdate t (.map (some b)) (key k) (val v);pure undef) w K:=by
 obtain⟨es,c,e1,e2,hb⟩:=hS.mapAt u.has
 rcases find_relW (w:=w) ok k es m 0 e1 with ⟨a1,_,a3,a5⟩|⟨j,e,a,a1,a2,a3,_,a5⟩
 ·refine⟨undef,{w with heap:=w.heap.setIfInBounds b (.map (es++[({key:=key k,val:=val v,born:=c}:MapEntry)]).toArray (c+1))},?_,h _ _ (hS.mapPut u hb (by rw[a3];simp[e1,kv,kw]) ?_)⟩
  ·simp[Instr.mapUpdate,run_underlying ht,MapKept.run_getObj_map hb,ok.check,findKey_ask ok,a1,MapKept.run_setObj_map _ hb,Result.andThen]
  ·have:=MapKept.stamped_push e2 (key:=key k) (val:=val v) (by simpa using a5)
   simpa using this
 ·refine⟨undef,{w with heap:=w.heap.setIfInBounds b (.map (es.modify j λe=>{e with key:=key k,val:=val v}).toArray c)},?_,h _ _ (hS.mapPut u hb (a5 v) ?_)⟩
  ·have hj:es.toArray[j]?=some e:=by simpa using a2
   simp[Instr.mapUpdate,run_underlying ht,MapKept.run_getObj_map hb,ok.check,findKey_ask ok,a1,a2,a3,ok.stays,MapKept.run_setObj_map _ hb,Result.andThen]
  ·have hkey:∀e',es.toArray[j]?=some e'→({e' with key:=key k,val:=val v}:MapEntry).key=e'.key:=λe' he'=>by
    have:es[j]?=some e':=by simpa using he'
    rw[a2]at this;cases this;exact a3.symm
   have:=MapKept.stamped_modify e2 j (λe=>{e with key:=key k,val:=val v}) (λ_ _=>rfl) (λe' _ he'=>hkey e' he')
   simpa using this
end
def encPl(p:Int × Int):List Value:=[.int .i64 p.1,.int .i64 p.2]
def plV(p:Int × Int):Value:=agg (encPl p)
theorem eq_pl(a b:Int × Int)(w:World):(Op.equal 311 (plV a) (plV b)).run Tryz.prog w= .ok (decide (a=b)) w:=by
 refine run_eqG Tryz.underlying311 (by kernel_rfl) ?_
 obtain⟨k1,v1⟩:=a
 obtain⟨k2,v2⟩:=b
 simp[encPl,Op.eqFields,part,run_equalIn_int (h:=Tryz.underlying2),run_equalIn_int (h:=Tryz.underlying3),Result.andThen]
 by_cases h0:k1=k2<;>by_cases h1:v1=v2<;>simp[*]
theorem plRun:KeyRun Tryz.prog 311 plV where
 wide:=⟨_,Tryz.underlying311⟩
 check:=λk em w=>by
  obtain⟨a,b⟩:=k
  have h1:(Instr.checkKey em 9999 3 (.int .i64 a)).run Tryz.prog w= .ok () w:=MapKept.run_checkKey (k:=.int .i64 a) Tryz.underlying3 (keyOkI .i64 |>.is a) em 9998
  have h2:(Instr.checkKey em 9999 2 (.int .i64 b)).run Tryz.prog w= .ok () w:=MapKept.run_checkKey (k:=.int .i64 b) Tryz.underlying2 (keyOkI .i64 |>.is b) em 9998
  show (Instr.checkKey em (9999+1) _ _).run Tryz.prog w=_
  unfold Instr.checkKey
  simp[plV,encPl,run_underlying Tryz.underlying311,part,h1,h2,Result.andThen]
 eq:=eq_pl
 stays:=λk w=>by
  have:Instr.sameBits 10000 (plV k) (plV k)=true:=by simp[plV,encPl,Instr.sameBits]
  simp[Instr.keyThatStays,this]
 inj:=λ{a b} h=>by
  obtain⟨a1,a2⟩:=a
  obtain⟨b1,b2⟩:=b
  simp[plV,encPl]at h
  rw[h.1,h.2]
theorem s_stNO{W w:World}{l:List Chunk}{α:Type}{enc:α→List Value}{v:Value}{t:TypeId}{sz j:Nat}{k:IntKind}{xs:List α}{y:α}{K:World→Prop}(hS:SL W (.ob (OwnSl v t sz xs.length (xs.map enc).flatten)::l) w)(hn:∀x,(enc x).length=sz)
  (hj:j<xs.length) (h1:∀v∈enc y,v.oneCell'=true) (hK:∀w',SL W (.ob (OwnSl v t sz (xs.set j y).length ((xs.set j y).map enc).flatten)::l) w'→K w'):zj sz v (.int k (j:Int)) λq=>zq sz q (agg (enc y)) w K:=by
 rcases OwnSl.open hS with ⟨_,h0,_⟩|⟨b,cap,rest,rfl,hc,hlen,hrest,hS⟩
 ·omega
 have hlt:j*sz+sz≤xs.length*sz:=by
  have:(j+1)*sz≤xs.length*sz:=Nat.mul_le_mul_right _ hj
  rwa [Nat.add_mul,Nat.one_mul]at this
 refine zE hj ?_
 rw[Nat.zero_add]
 refine Qu hS .hd (hn y) (by rw[List.length_append];omega) h1 λw' hS=>hK w' ?_
 have e:((xs.map enc).flatten++rest).take (j*sz)++enc y++((xs.map enc).flatten++rest).drop (j*sz+sz)=((xs.set j y).map enc).flatten++rest:=by
  rw[List.take_append_of_le_length (by omega),List.drop_append_of_le_length (by omega),flat_take_n hn,show j*sz+sz=(j+1)*sz by rw[Nat.add_mul,Nat.one_mul],flat_drop_n hn,List.set_eq_take_append_cons_drop,if_pos hj]
  simp
 rw[e]at hS
 have hl:(xs.set j y).length=xs.length:=List.length_set
 rw[hl]
 exact OwnSl.mk hc (by rw[flat_len hn,hl]) hrest hS
theorem Qi(sp:Nat)(ts:List (List Row))(H:Heap)(v:Value)(t:Nat)(l:List Row)(ht:t<ts.length)(hv:RdSl H 2 v l.length (l.map encRow).flatten)(hs:SortedR l)(hl:l.length≤100000):
  SP 141 [ptrA sp,.int .i64 (t:Int),v] [.ob (TabO sp ts),.mem H] (Gives (.bool true) [.ob (TabO sp (ts.set t l)),.mem H]):=by
 intro W F w hS;apply vc141;unfold Vc141;(try simp only[app]at hS)
 refine Cg (y6 sp ts t) λw hS=>?_
 refine zc (λ_=>?_) (λh=>by omega)
 obtain⟨pv,L,hL,hS⟩:=TabO.iff.1 hS
 have hl2:=snd_len hL
 obtain⟨b0,hb⟩:=snd_at hL ht
 refine Gn λw hS=>?_
 (refine Cc (Ya H v l hv hl) ?_;clear hS)
 rintro u post ⟨xb,rfl,rfl⟩ w hS
 (try simp only[app]at hS)
 rw[putR_nil hs]at hS
 refine Gp ?_
 refine s_stNO (enc:=encOne) (y:=(xb,l)) (SL.into hS (t:=OnO pv L::.ob (zh IdxO L)::.ob (IdxO (xb,l))::.pt sp [pv] 165::.mem H::F) Xi) encOne_len (by omega) (by simp[encOne,Value.oneCell']) λw hS=>?_
 have hS:=zh.take (SL.into hS (t:=.ob (zh IdxO L)::.ob (IdxO (xb,l))::.pt sp [pv] 165::OnO pv (L.set t (xb,l))::.mem H::F) Xi) hb
 have hS:=zh.put (SL.into hS (t:=.ob (IdxO (xb,l))::.ob (zh IdxO (L.eraseIdx t))::.pt sp [pv] 165::OnO pv (L.set t (xb,l))::.mem H::F) Xi) (by omega)
 have hS:=TabO.put (snd_set hL t xb l) hS Xp
 refine Cg (y6 sp (ts.set t l) t) λw hS=>?_
 rw[show decide (0≤(t:Int)∧(t:Int)<((ts.set t l).length:Int))=true from decide_eq_true (by rw[List.length_set];omega)]
 (exact⟨_,⟨rfl,rfl⟩,SL.into hS Xi⟩)
theorem ins_len:∀{C:List Row},SortedR C→∀(k:Int) (v:ByteArray),(insR C ⟨k,v⟩).length=C.length+if (getR C k).isSome=true then 0 else 1
 | [],_,k,v=>by simp[insR,getR]
 | x::C,h,k,v=>by
  unfold SortedR at h
  rw[List.pairwise_cons]at h
  unfold insR
  by_cases h1:x.key<k
  ·have hg:getR (x::C) k=getR C k:=by unfold getR;rw[List.find?_cons];simp[show ¬x.key=k by omega]
   rw[if_pos h1,List.length_cons,ins_len (C:=C) h.2 k v,List.length_cons,hg];omega
  ·rw[if_neg h1]
   by_cases h2:x.key=k
   ·have hg:(getR (x::C) k).isSome=true:=by unfold getR;rw[List.find?_cons];simp[h2]
    rw[if_pos h2,hg];simp
   ·have hg:getR (x::C) k=none:=by
     unfold getR
     have:(x::C).find? (λc=>decide (c.key=k))=none:=by
      rw[List.find?_eq_none]
      intro y hy
      rcases List.mem_cons.1 hy with rfl|hy
      ·simpa using h2
      ·have:=h.1 y hy;simp;omega
     rw[this];rfl
    rw[if_neg h2,hg];simp
theorem del_len:∀(C:List Row) (k:Int),((delR C k).length:Int)=C.length-if (getR C k).isSome=true then 1 else 0
 | [],k=>by simp[delR,getR]
 | x::C,k=>by
  unfold delR
  by_cases h:x.key=k
  ·have hg:(getR (x::C) k).isSome=true:=by unfold getR;rw[List.find?_cons];simp[h]
   rw[if_pos h,hg];simp
  ·have hg:getR (x::C) k=getR C k:=by unfold getR;rw[List.find?_cons];simp[h]
   rw[if_neg h,hg,List.length_cons,List.length_cons]
   have:=del_len C k
   omega
theorem rowApp_cnt{C:List Row}(h:SortedR C)(c:Chg):((rowApp C c).length:Int)=C.length+(if (getR C c.key).isSome=true then (if c.gone=true then -1 else 0) else (if c.gone=true then 0 else 1)):=by
 unfold rowApp
 cases c.gone with
 | true=>
  rw[if_pos rfl,del_len]
  split<;>simp<;>omega
 | false=>
  rw[if_neg (by decide)]
  have:=ins_len h c.key c.val
  rw[this]
  split<;>simp
theorem rowApp_get{C:List Row}(h:SortedR C)(c:Chg)(k:Int):(getR (rowApp C c) k).isSome=if c.key=k then !c.gone else (getR C k).isSome:=by
 unfold rowApp
 cases hg:c.gone with
 | true=>
  rw[if_pos rfl,get_delR h]
  split<;>rfl
 | false=>
  rw[if_neg (by decide),get_insR]
  split<;>rfl
def MapOk(ts T:List (List Row))(m:List ((Int × Int) × Bool)):Prop:=∀p:Int × Int,match mget m p with
 | none=>getR (tabAt T p.1) p.2=getR (tabAt ts p.1) p.2
 | some b=>(getR (tabAt T p.1) p.2).isSome=b
theorem mget_msetP{κ α:Type}[DecidableEq κ](m:List (κ × α))(k:κ)(v:α)(k':κ):mget (mset m k v) k'=if k=k' then some v else mget m k':=by
 induction m with
 | nil=>simp[mset,mget]
 | cons p m ih=>
  unfold mset
  by_cases h:p.1=k
  ·rw[if_pos h]
   by_cases h1:k=k'
   ·simp[mget,h1]
   ·simp[mget,h1,show ¬p.1=k' by rw[h];exact h1]
  ·rw[if_neg h]
   by_cases h1:p.1=k'
   ·have:¬k=k':=λe=>h (by rw[h1,e])
    simp[mget,h1,this]
   ·simp only[mget,if_neg h1];exact ih
theorem tabAt_appI{T:List (List Row)}{c:Chg}(hc:chgIn T.length c=true)(t:Int):tabAt (appTs T c) t=if t=c.table then rowApp (tabAt T c.table) c else tabAt T t:=by
 obtain⟨h0,h1⟩:=of_decide_eq_true hc
 unfold appTs
 by_cases ht:0≤t∧t<(T.length:Int)
 ·obtain⟨n,rfl⟩:∃n:Nat,t=n:=⟨t.toNat,by omega⟩
  have hn:n<T.length:=by omega
  rw[tabAt_nat _ n (by rw[List.length_set];exact hn),List.getElem_set]
  by_cases e:c.table.toNat=n
  ·rw[if_pos e,if_pos (by omega)]
  ·rw[if_neg e,if_neg (by omega),tabAt_nat T n hn]
 ·rw[tabAt_out (by rw[List.length_set];exact ht),if_neg (by omega),tabAt_out ht]
theorem MapOk.step{ts T:List (List Row)}{m:List ((Int × Int) × Bool)}(h:MapOk ts T m)(hs:∀C∈T,SortedR C){c:Chg}(hc:chgIn T.length c=true):MapOk ts (appTs T c) (mset m (c.table,c.key) (!c.gone)):=by
 have hsc:=hs _ (tabAt_mem (of_decide_eq_true hc))
 rintro ⟨t,k⟩
 rw[mget_msetP]
 have hk:=h (t,k)
 simp only at hk ⊢
 rw[tabAt_appI hc]
 by_cases e:(c.table,c.key)=(t,k)
 ·rw[if_pos e]
  simp only[Prod.mk.injEq]at e
  rw[if_pos e.1.symm,rowApp_get hsc,if_pos e.2]
 ·rw[if_neg e]
  simp only[Prod.mk.injEq,not_and]at e
  by_cases e1:t=c.table
  ·rw[if_pos e1]
   have e2:=e e1.symm
   subst e1
   have hg:getR (rowApp (tabAt T c.table) c) k=getR (tabAt T c.table) k:=by
    unfold rowApp
    split
    ·rw[get_delR hsc,if_neg e2]
    ·rw[get_insR,if_neg e2]
   rw[hg];exact hk
  ·rw[if_neg e1];exact hk
def cntC(T:List (List Row)):List Value:=T.map λC=>.int .i64 (C.length:Nat)
theorem cntC_len(T:List (List Row)):(cntC T).length=T.length:=by simp[cntC]
theorem cntC_app{T:List (List Row)}{c:Chg}{t:Nat}(ht:c.table=t)(h:t<T.length):cntC (appTs T c)=(cntC T).set t (.int .i64 ((rowApp T[t] c).length:Nat)):=by
 unfold cntC appTs
 rw[List.map_set,ht,Int.toNat_natCast,tabAt_nat T t h]
theorem cntC_same{T:List (List Row)}{c:Chg}{t:Nat}(ht:c.table=t)(h:t<T.length)(hl:(rowApp T[t] c).length=T[t].length):cntC (appTs T c)=cntC T:=by
 rw[cntC_app ht h,hl]
 unfold cntC
 rw[← List.map_set (f:=λC:List Row=>Value.int .i64 (C.length:Nat)) (a:=T[t]),List.set_getElem_self]
theorem cntC_at{T:List (List Row)}{t:Nat}(h:t<T.length):(cntC T)[t]?=some (.int .i64 (T[t].length:Nat)):=by simp[cntC,h]
theorem y4{W w:World}{l:List Chunk}{v u:Value}{t:TypeId}{n j:Nat}{k:IntKind}{cells:List Value}{K:World→Prop}(hS:SL W (.ob (OwnSl v t 1 n cells)::l) w)(hj:j<n)(h1:u.oneCell'=true)
  (hK:∀w',SL W (.ob (OwnSl v t 1 n (cells.set j u))::l) w'→K w'):zj 1 v (.int k (j:Int)) λq=>HSt q u w K:=by
 rcases OwnSl.open hS with ⟨_,h0,_⟩|⟨b,cap,rest,rfl,hc,hlen,hrest,hS⟩
 ·omega
 refine zE hj ?_
 rw[Nat.zero_add,Nat.mul_one]
 refine Zc hS .hd (List.getElem?_eq_getElem (by rw[List.length_append];omega)) h1 λw' hS=>hK w' ?_
 rw[List.set_append_left _ _ (by omega)]at hS
 exact OwnSl.mk hc (by rw[List.length_set];exact hlen) hrest hS
theorem encChg_mk(t k:Int)(g:Bool)(v:ByteArray):encChg ⟨t,k,g,v⟩=[.int .i64 t,.int .i64 k,.bool g,.string v]:=rfl
theorem q9(sp:Nat)(ts:List (List Row))(H:Heap)(v:Value)(l:List Chg)(hv:RdSl H 4 v l.length (l.map encChg).flatten)(hl:l.length≤140737488351232)(hs:∀C∈ts,SortedR C)(hn:∀C∈ts,C.length≤1000000)(hl6:l.length≤1000000)(ht8:ts.length≤1000):
  SP 145 [ptrA sp,v] [.ob (TabO sp ts),.mem H] (Gives (.bool (fitsTs ts l)) [.ob (TabO sp ts),.mem H]):=by
 intro W F w hS;apply vc145;unfold Vc145;(try simp only[app]at hS)
 refine Cg (Yq sp ts H v l hv hl) λw hS=>?_
 cases ha:l.all (chgIn ts.length) with
 | false=>
  refine zy ?_
  rw[show fitsTs ts l=false by unfold fitsTs;rw[ha];rfl]
  (exact⟨_,⟨rfl,rfl⟩,SL.into hS Xi⟩)
 | true=>
  refine zt ?_
  have hF:fitsTs ts l=(appsTs ts l).all λC=>decide (C.length≤1000):=by unfold fitsTs;rw[ha];rfl
  have ha:=List.all_eq_true.1 ha
  obtain⟨pv,L,hL,hS⟩:=TabO.iff.1 hS
  have hLl:=snd_len hL
  refine Gp ?_
  refine zx hS Xh ?_
  refine s_mk hS (Nat.le_refl _) (by omega) (by omega) λnb w hS=>?_
  have hS:=OwnSl.full (sz:=1) (n:=L.length) (by rw[zrow_length];rfl) hS
  refine Gp ?_
  refine zx hS Xh ?_
  refine⟨λus w=>∃(i:Nat) (cells:List Value),us=[.int .i64 i]∧i≤L.length∧cells.length=L.length∧(∀j (h:j<ts.length),j<i→cells[j]?=some (.int .i64 (ts[j].length:Nat)))∧SL W (.ob (OwnSl (.slice (some ⟨nb,0,none⟩) L.length L.length) 3 1 L.length cells)::.pt sp [pv] 165::OnO pv L::.ob (zh IdxO L)::.mem H::F) w,
   λus _=>match us with|[.int _ i]=>(L.length-i).toNat|_=>0,⟨0,zrow [.int .i64 0] L.length,rfl,by omega,by rw[zrow_length];exact Nat.mul_one _,λj h hj=>by omega,SL.into hS Xi⟩,?_⟩
  clear hS
  rintro v31 w ⟨i,cells,hus,hi,hcl,hcs,hS⟩
  cases hus
  refine Gp ?_
  refine zc (λh=>?_) (λh=>?_)
  ·have hil:i<ts.length:=by omega
   obtain⟨b0,hb⟩:=snd_at hL hil
   refine zZ hS Xh encOne_len hb (by omega) ?_
   unfold encOne
   refine Gm λb w hS=>?_
   have hS:=zh.take (SL.into hS (t:=.ob (zh IdxO L)::.ob (OwnSl (.slice (some ⟨nb,0,none⟩) L.length L.length) 3 1 L.length cells)::.pt sp [pv] 165::OnO pv L::.mem H::F) Xi) hb
   (refine Cc (QI b0 ts[i]) ?_;clear hS)
   rintro u post ⟨rfl,rfl⟩ w hS
   (try simp only[app]at hS)
   have hS:=zh.back hS hb
   refine y4 (SL.into hS (t:=.ob (OwnSl (.slice (some ⟨nb,0,none⟩) L.length L.length) 3 1 L.length cells)::.pt sp [pv] 165::OnO pv L::.ob (zh IdxO L)::.mem H::F) Xi) (by omega) rfl λw hS=>?_
   refine Gp ?_
   refine⟨⟨i+1,_,rfl,by omega,by rw[List.length_set];exact hcl,λj hj hji=>?_,hS⟩,by dsimp only;omega⟩
   rw[List.getElem?_set]
   by_cases e:i=j
   ·subst e;rw[if_pos rfl,if_pos (by omega)]
   ·rw[if_neg e];exact hcs j hj (by omega)
  ·obtain rfl:i=L.length:=by omega
   have hce:cells=cntC ts:=by
    refine List.ext_getElem? λj=>?_
    rcases Nat.lt_or_ge j ts.length with hj|hj
    ·rw[hcs j hj (by omega),cntC_at hj]
    ·rw[List.getElem?_eq_none (by omega),List.getElem?_eq_none (by rw[cntC_len];omega)]
   subst hce
   clear hcs hcl
   have hS:=TabO.put hL hS Xp
   clear hL
   refine zn hv ?_
   have hS:=hS.mapNew (key:=plV) (val:=Value.bool)
   generalize w.heap.size=mb at *
   generalize w.alloc (.map #[] 0)=w at *
   rw[show cntC ts=cntC (appsTs ts (l.take 0)) from rfl]at hS
   refine⟨λus w=>∃(i:Nat) (m:List ((Int × Int) × Bool)),us=[.int .i64 i]∧i≤l.length∧MapOk ts (appsTs ts (l.take i)) m∧SL W (.ob (TabO sp ts)::.ob (MapO plV Value.bool mb m)::.ob (OwnSl (.slice (some ⟨nb,0,none⟩) L.length L.length) 3 1 L.length (cntC (appsTs ts (l.take i))))::.mem H::F) w,
    λus _=>match us with|[.int _ i]=>(l.length-i).toNat|_=>0,⟨0,[],rfl,by omega,λp=>rfl,SL.into hS Xi⟩,?_⟩
   clear hS
   rintro v46 w ⟨i,m,hus,hi,hM,hS⟩
   cases hus
   refine Gp ?_
   refine zc (λh=>?_) (λh=>?_)
   ·have hil:i<l.length:=by omega
    have hst:appsTs ts (l.take (i+1))=appTs (appsTs ts (l.take i)) l[i]:=by rw[List.take_succ_eq_append_getElem hil,appsTs_snoc]
    have hin:=ha _ (List.getElem_mem hil)
    have hTl:=appsTs_len ts (l.take i)
    have hTs:=appsTs_sort (l:=l.take i) hs λc hc=>ha c (List.mem_of_mem_take hc)
    have hTn:=appsTs_lenR 1000000 (l:=l.take i) hn λc hc=>ha c (List.mem_of_mem_take hc)
    have htl:(l.take i).length≤l.length:=by rw[List.length_take];omega
    generalize appsTs ts (l.take i)=T at *
    refine zU hS Xh encChg_len hv (x:=l[i]) (by simp[hil]) hil ?_
    generalize l[i]=c at *
    obtain⟨ct,ck,cg,cv⟩:=c
    obtain⟨h0,h1⟩:0≤ct∧ct<(ts.length:Int):=of_decide_eq_true hin
    obtain⟨t,rfl⟩:∃n:Nat,ct=n:=⟨ct.toNat,by omega⟩
    have ht:t<T.length:=by omega
    have hts:t<ts.length:=by omega
    have htm:T[t]∈T:=List.getElem_mem ht
    have hlt:=hTn _ htm
    have hMk:=hM (t,ck)
    have hM2:=hM.step hTs (c:=⟨t,ck,cg,cv⟩) (by rw[hTl];exact hin)
    have hcnt:=rowApp_cnt (hTs _ htm) ⟨t,ck,cg,cv⟩
    simp only at hMk hM2 hcnt
    rw[tabAt_nat T t ht,tabAt_nat ts t hts]at hMk
    rw[← hst]at hM2
    clear hM
    rw[encChg_mk]
    refine Gb λcb w hS=>?_
    refine Gb λpb w hS=>?_
    refine s_mapOkW (key:=plV) (val:=Value.bool) (z:=.bool false) (k:=((t:Int),ck)) hS Xh plRun Tryz.underlying309 (λw=>by kernel_rfl) ?_
    refine Gp ?_
    refine⟨λus w=>us=[.bool (getR T[t] ck).isSome]∧SL W (.pt pb [.int .i64 t,.int .i64 ck] 311::.pt cb [.int .i64 t,.int .i64 ck,.bool cg,.string cv] 82::.ob (TabO sp ts)::.ob (MapO plV Value.bool mb m)::.ob (OwnSl (.slice (some ⟨nb,0,none⟩) L.length L.length) 3 1 L.length (cntC T))::.mem H::F) w,?_,?_⟩
    ·cases hmg:mget m ((t:Int),ck) with
     | none=>
      rw[hmg]at hMk
      refine zP (zy ?_)
      have hMk:getR T[t] ck=getR ts[t] ck:=hMk
      obtain⟨pv,L2,hL,hS⟩:=TabO.iff.1 (SL.into hS (t:=.ob (TabO sp ts)::.pt pb [.int .i64 t,.int .i64 ck] 311::.pt cb [.int .i64 t,.int .i64 ck,.bool cg,.string cv] 82::.ob (MapO plV Value.bool mb m)::.ob (OwnSl (.slice (some ⟨nb,0,none⟩) L.length L.length) 3 1 L.length (cntC T))::.mem H::F) Xi)
      obtain⟨b0,hb⟩:=snd_at hL hts
      have hLl2:=snd_len hL
      refine Gn λw hS=>?_
      refine zD hS Xh encOne_len hb (by omega) (i:=0) rfl ?_
      refine Gp ?_
      have hS:=zh.take (SL.into hS (t:=.ob (zh IdxO L2)::.pt sp [pv] 165::OnO pv L2::.pt pb [.int .i64 t,.int .i64 ck] 311::.pt cb [.int .i64 t,.int .i64 ck,.bool cg,.string cv] 82::.ob (MapO plV Value.bool mb m)::.ob (OwnSl (.slice (some ⟨nb,0,none⟩) L.length L.length) 3 1 L.length (cntC T))::.mem H::F) Xi) hb
      (refine Cc (QH b0 ts[t] ck (hs _ (List.getElem_mem hts)) (hn _ (List.getElem_mem hts))) ?_;clear hS)
      rintro u post ⟨rfl,rfl⟩ w hS
      (try simp only[app]at hS)
      have hS:=TabO.put hL (zh.back hS hb) Xp
      unfold getV
      refine Gp ?_
      exact⟨by rw[hMk],SL.into hS Xi⟩
     | some q=>
      rw[hmg]at hMk
      have hMk:(getR T[t] ck).isSome=q:=hMk
      refine zP (zt ?_)
      exact⟨by rw[hMk];rfl,SL.into hS Xi⟩
    clear hS
    rintro v12 w ⟨hus,hS⟩
    cases hus
    refine Gp ?_
    refine Q1 (key:=plV) (val:=Value.bool) (k:=((t:Int),ck)) (v:=!cg) hS Xu plRun Tryz.underlying309 λ_ w hS=>?_
    have hfin:∀{w:World} {cells:List Value},cells=cntC (appsTs ts (l.take (i+1)))→SL W (.ob (OwnSl (.slice (some ⟨nb,0,none⟩) L.length L.length) 3 1 L.length cells)::.ob (TabO sp ts)::.ob (MapO plV Value.bool mb (mset m ((t:Int),ck) (!cg)))::.mem H::F) w →
      ∃(i':Nat) (m':List ((Int × Int) × Bool)),[Value.int .i64 ((i+1:Nat):Int)]=[.int .i64 i']∧i'≤l.length∧MapOk ts (appsTs ts (l.take i')) m'∧SL W (.ob (TabO sp ts)::.ob (MapO plV Value.bool mb m')::.ob (OwnSl (.slice (some ⟨nb,0,none⟩) L.length L.length) 3 1 L.length (cntC (appsTs ts (l.take i'))))::.mem H::F) w:=λe hS=>by
     subst e
     exact⟨i+1,_,rfl,by omega,hM2,SL.into hS Xi⟩
    have hcat:=cntC_at ht
    have happ:=cntC_app (T:=T) (c:=⟨t,ck,cg,cv⟩) rfl ht
    have hsame:=cntC_same (T:=T) (c:=⟨t,ck,cg,cv⟩) rfl ht
    rw[← hst]at happ hsame
    refine⟨λus w=>us=[.bool ((getR T[t] ck).isSome && cg)]∧SL W (.pt cb [.int .i64 t,.int .i64 ck,.bool cg,.string cv] 82::.ob (TabO sp ts)::.ob (MapO plV Value.bool mb (mset m ((t:Int),ck) (!cg)))::.ob (OwnSl (.slice (some ⟨nb,0,none⟩) L.length L.length) 3 1 L.length (cntC T))::.mem H::F) w,?_,?_⟩
    ·cases (getR T[t] ck).isSome with
     | false=>
      refine Gp ?_
      exact⟨rfl,SL.into hS Xi⟩
     | true=>
      refine Gp ?_
      exact⟨by simp,SL.into hS Xi⟩
    clear hS
    rintro v83 w ⟨hus,hS⟩
    cases hus
    cases hw:(getR T[t] ck).isSome<;>cases cg<;>rw[hw]at hcnt
    ·refine zt (zP (zy ?_))
     refine Gp ?_
     refine zy ?_
     refine Gp ?_
     refine z7 hS Xh (by omega) hcat ?_
     refine Gp ?_
     refine y4 (SL.into hS (t:=.ob (OwnSl (.slice (some ⟨nb,0,none⟩) L.length L.length) 3 1 L.length (cntC T))::.ob (TabO sp ts)::.ob (MapO plV Value.bool mb (mset m ((t:Int),ck) (!false)))::.mem H::F) Xi) (by omega) rfl λw hS=>?_
     refine Gp ?_
     exact⟨hfin (by rw[happ];congr 2;simp at hcnt;omega) hS,by dsimp only;omega⟩
    ·refine zt (zP (zy ?_))
     refine Gp ?_
     refine zt ?_
     refine Gp ?_
     exact⟨hfin (hsame (by simp at hcnt;omega)).symm (SL.into hS Xi),by dsimp only;omega⟩
    ·refine zt (zP (zt ?_))
     refine Gp ?_
     exact⟨hfin (hsame (by simp at hcnt;omega)).symm (SL.into hS Xi),by dsimp only;omega⟩
    ·refine zy ?_
     refine Gp ?_
     refine z7 hS Xh (by omega) hcat ?_
     refine Gp ?_
     refine y4 (SL.into hS (t:=.ob (OwnSl (.slice (some ⟨nb,0,none⟩) L.length L.length) 3 1 L.length (cntC T))::.ob (TabO sp ts)::.ob (MapO plV Value.bool mb (mset m ((t:Int),ck) (!true)))::.mem H::F) Xi) (by omega) rfl λw hS=>?_
     refine Gp ?_
     exact⟨hfin (by rw[happ];congr 2;simp at hcnt;omega) hS,by dsimp only;omega⟩
   ·obtain rfl:i=l.length:=by omega
    rw[List.take_length]at hS
    have hTl:=appsTs_len ts l
    generalize appsTs ts l=T at *
    refine Gp ?_
    refine⟨λus w=>∃j:Nat,us=[.int .i64 j]∧j≤T.length∧(∀k (h:k<T.length),k<j→T[k].length≤1000)∧SL W (.ob (TabO sp ts)::.ob (OwnSl (.slice (some ⟨nb,0,none⟩) L.length L.length) 3 1 L.length (cntC T))::.mem H::F) w,
     λus _=>match us with|[.int _ i]=>(T.length-i).toNat|_=>0,⟨0,rfl,by omega,λk h hk=>by omega,SL.into hS Xi⟩,?_⟩
    clear hS
    rintro v114 w ⟨j,hus,hj,hall,hS⟩
    cases hus
    refine Gp ?_
    refine zc (λh=>?_) (λh=>?_)
    ·have hjl:j<T.length:=by omega
     refine z7 hS Xh (by omega) (cntC_at hjl) ?_
     refine Gp ?_
     refine zc (λh2=>?_) (λh2=>?_)
     ·rw[hF,show (T.all λC=>decide (C.length≤1000))=false from List.all_eq_false.2 ⟨_,List.getElem_mem hjl,by simp;omega⟩]
      (exact⟨_,⟨rfl,rfl⟩,SL.into hS Xi⟩)
     ·refine Gp ?_
      refine⟨⟨j+1,rfl,by omega,λk hk hkj=>?_,hS⟩,by dsimp only;omega⟩
      by_cases e:k=j
      ·subst e;omega
      ·exact hall k hk (by omega)
    ·rw[hF,show (T.all λC=>decide (C.length≤1000))=true from List.all_eq_true.2 λC hC=>by
      obtain⟨k,hk,rfl⟩:=List.getElem_of_mem hC
      exact decide_eq_true (hall k hk (by omega))]
     (exact⟨_,⟨rfl,rfl⟩,SL.into hS Xi⟩)
theorem Y1(c:Chg)(k:Int):SP 222 [agg (encChg c),.int .i64 k] [] (Gives (.bool (mayCh c k)) []):=by
 intro W F w hS;apply vc222;unfold Vc222;(try simp only[app]at hS)
 refine zJ hS λb w hS=>?_
 unfold encChg at hS
 have hF:∀{w:World},¬(0≤c.table∧c.table<k∧1≤c.key∧c.key≤1099511627776∧c.val.size≤32)→SL W (.pt b [.int .i64 c.table,.int .i64 c.key,.bool c.gone,.string c.val] 82::F) w →
   ∃post,Gives (.bool (mayCh c k)) [] (.bool false) post∧SL W (app post F) w:=λh hS=>⟨_,⟨by rw[show mayCh c k=false by unfold mayCh;rw[decide_eq_false_iff_not];exact λk=>h ⟨k.1,k.2.1,k.2.2.1,k.2.2.2.1,k.2.2.2.2.1⟩],rfl⟩,SL.into hS Xi⟩
 refine Gp ?_
 refine zc (λ_=>hF (by omega) hS) (λ_=>?_)
 refine Gp ?_
 refine zc (λ_=>hF (by omega) hS) (λ_=>?_)
 refine Gp ?_
 refine zc (λ_=>hF (by omega) hS) (λ_=>?_)
 refine Gp ?_
 refine zc (λ_=>hF (by omega) hS) (λ_=>?_)
 (repeat (first|refine Gp ?_|refine Gw λw hS=>?_|refine zc (λ_=>hF (by omega) hS) (λ_=>?_)|refine zc (λ_=>?_) (λ_=>hF (by omega) hS)))
 have e:mayCh c k=decide (c.gone=true→c.val=emp):=by
  unfold mayCh
  rw[decide_eq_decide]
  exact⟨λh=>h.2.2.2.2.2,λh=>⟨by omega,by omega,by omega,by omega,by omega,h⟩⟩
 rw[e]
 refine zA (λh=>?_) (λh=>?_)
 ·rw[h,decide_eq_true (by simp)]
  (exact⟨_,⟨rfl,rfl⟩,SL.into hS Xi⟩)
 ·refine Gp ?_
  rw[h]
  have e2:decide (true=true→c.val=emp)=decide (c.val={data:=#[]}):=by rw[decide_eq_decide];exact⟨λh=>h rfl,λh _=>h⟩
  rw[e2]
  (exact⟨_,⟨rfl,rfl⟩,SL.into hS Xi⟩)
theorem mayTx_kf{t:TxnD}(h:¬(1≤t.lsn∧t.lsn≤1099511627776)):mayTx t=false:=by
 unfold mayTx;rw[decide_eq_false h];rfl
theorem mayTx_f1{t:TxnD}(hk:t.kind=1)(h:¬(t.mark=0∧t.changes.length≤16∧t.signals.length≤2)):mayTx t=false:=by
 unfold mayTx;rw[if_pos hk,decide_eq_false h];simp
theorem mayTx_f2{t:TxnD}{i:Nat}(hk:t.kind=1)(hi:i<t.changes.length)(h:mayCh t.changes[i] 8=false):mayTx t=false:=by
 cases hm:mayTx t with
 | false=>rfl
 | true=>
  rw[(mayTx_all hm).2.2.2.2.2.1 _ (List.getElem_mem hi)]at h;cases h
theorem mayTx_f3{t:TxnD}{i:Nat}(hk:t.kind=1)(hi:i<t.signals.length)(h:¬t.signals[i].size≤40):mayTx t=false:=by
 cases hm:mayTx t with
 | false=>rfl
 | true=>exact absurd ((mayTx_all hm).2.2.2.2.2.2 _ (List.getElem_mem hi)) h
theorem mayTx_t{t:TxnD}(hl:1≤t.lsn∧t.lsn≤1099511627776)(hk:t.kind=1)(h:t.mark=0∧t.changes.length≤16∧t.signals.length≤2)(h1:∀j (hj:j<t.changes.length),mayCh t.changes[j] 8=true)(h2:∀j (hj:j<t.signals.length),t.signals[j].size≤40):mayTx t=true:=by
 refine mayTx_iff.2 ⟨hl,.inl ⟨hk,h.1,h.2.1,h.2.2,λc hc=>?_,λs hs=>?_⟩⟩
 ·obtain⟨j,hj,rfl⟩:=List.getElem_of_mem hc;exact h1 j hj
 ·obtain⟨j,hj,rfl⟩:=List.getElem_of_mem hs;exact h2 j hj
theorem mayTx_k{t:TxnD}(hl:1≤t.lsn∧t.lsn≤1099511627776)(hk:t.kind=2∨t.kind=3):mayTx t=decide (1≤t.mark∧t.mark≤1099511627776∧t.changes.length=0∧t.signals.length=0):=by
 rw[Bool.eq_iff_iff,mayTx_iff,decide_eq_true_eq]
 simp only[List.length_eq_zero_iff]
 constructor
 ·rintro ⟨_,h|h⟩
  ·omega
  ·exact h.2
 ·exact λh=>⟨hl,.inr ⟨hk,h⟩⟩
theorem mayTx_no{t:TxnD}(h:¬(1≤t.kind∧t.kind≤3)):mayTx t=false:=by
 cases hm:mayTx t with
 | false=>rfl
 | true=>exact absurd (mayTx_all hm).2.1 h
abbrev TxC(b:Nat)(x:TxV)(t:TxnD):Chunk:=.pt b [.int .i64 t.lsn,.int .i64 t.kind,x.cv,x.sv,.int .i64 t.mark] 39
theorem Y2(H:Heap)(x:TxV)(t:TxnD)(hx:TxIs H x t)(hl:1≤t.lsn∧t.lsn≤1099511627776)(hk:t.kind=1):SP 144 [agg (encTx x)] [.mem H] (Gives (.bool (mayTx t)) [.mem H]):=by
 intro W F w hS;apply vc144;unfold Vc144;(try simp only[app]at hS)
 refine zJ hS λxb w hS=>?_
 unfold encTx at hS
 rw[hx.lsn,hx.kind,hx.mark]at hS
 have hF:∀{w:World},mayTx t=false→SL W (TxC xb x t::.mem H::F) w→∃post,Gives (.bool (mayTx t)) [.mem H] (.bool false) post∧SL W (app post F) w:=λh hS=>⟨_,⟨by rw[h],rfl⟩,SL.into hS Xi⟩
 refine Gp ?_
 refine zc (λh=>hF (mayTx_f1 hk (by omega)) hS) (λh1=>?_)
 refine Gp ?_
 refine zn hx.cv ?_
 refine Gp ?_
 refine zc (λh=>hF (mayTx_f1 hk (by omega)) hS) (λh2=>?_)
 refine Gp ?_
 refine zn hx.sv ?_
 refine Gp ?_
 refine zc (λh=>hF (mayTx_f1 hk (by omega)) hS) (λh3=>?_)
 refine Gp ?_
 refine zn hx.cv ?_
 refine⟨λvs w=>∃i:Nat,vs=[.int .i64 i]∧i≤t.changes.length∧(∀j (hj:j<t.changes.length),j<i→mayCh t.changes[j] 8=true)∧SL W (TxC xb x t::.mem H::F) w,
  λvs _=>match vs with|[.int _ i]=>(t.changes.length-i).toNat|_=>0,⟨0,rfl,by omega,λj hj h=>by omega,hS⟩,?_⟩
 clear hS
 rintro v3 w ⟨i,hvs,hi,hall,hS⟩
 cases hvs
 refine Gp ?_
 refine zc (λh=>?_) (λh=>?_)
 ·have hil:i<t.changes.length:=by omega
  refine zU hS Xh encChg_len hx.cv (x:=t.changes[i]) (by simp[hil]) hil ?_
  refine Gm λb w hS=>?_
  refine Cg (Y1 t.changes[i] 8) λw hS=>?_
  refine zA (λh=>hF (mayTx_f2 hk hil h) (SL.into hS Xi)) (λh=>?_)
  refine Gp ?_
  refine⟨⟨i+1,rfl,by omega,λj hj hji=>?_,SL.into hS Xi⟩,by dsimp only;omega⟩
  by_cases e:j=i
  ·subst e;exact h
  ·exact hall j hj (by omega)
 ·have hie:i=t.changes.length:=by omega
  have hops:∀j (hj:j<t.changes.length),mayCh t.changes[j] 8=true:=λj hj=>hall j hj (by omega)
  clear hall
  refine Gp ?_
  refine zn hx.sv ?_
  refine⟨λvs w=>∃i:Nat,vs=[.int .i64 i]∧i≤t.signals.length∧(∀j (hj:j<t.signals.length),j<i→t.signals[j].size≤40)∧SL W (TxC xb x t::.mem H::F) w,
   λvs _=>match vs with|[.int _ i]=>(t.signals.length-i).toNat|_=>0,⟨0,rfl,by omega,λj hj h=>by omega,SL.into hS Xi⟩,?_⟩
  clear hS
  rintro v5 w ⟨i,hvs,hi,hall,hS⟩
  cases hvs
  refine Gp ?_
  refine zc (λh=>?_) (λh=>?_)
  ·have hil:i<t.signals.length:=by omega
   refine yP hS Xh hx.sv hil (u:=.string t.signals[i]) (by simp[hil]) ?_
   refine Gp ?_
   refine zc (λh=>hF (mayTx_f3 hk hil (by omega)) (SL.into hS Xi)) (λh=>?_)
   refine Gp ?_
   refine⟨⟨i+1,rfl,by omega,λj hj hji=>?_,SL.into hS Xi⟩,by dsimp only;omega⟩
   by_cases e:j=i
   ·subst e;omega
   ·exact hall j hj (by omega)
  ·rw[mayTx_t hl hk (by omega) hops λj hj=>hall j hj (by omega)]
   (exact⟨_,⟨rfl,rfl⟩,SL.into hS Xi⟩)
theorem yp(H:Heap)(x:TxV)(t:TxnD)(hx:TxIs H x t):SP 61 [agg (encTx x)] [.mem H] (Gives (.bool (mayTx t)) [.mem H]):=by
 intro W F w hS;apply vc61;unfold Vc61;(try simp only[app]at hS)
 refine zJ hS λxb w hS=>?_
 unfold encTx at hS
 rw[hx.lsn,hx.kind,hx.mark]at hS
 have hF:∀{w:World},mayTx t=false→SL W (TxC xb x t::.mem H::F) w→∃post,Gives (.bool (mayTx t)) [.mem H] (.bool false) post∧SL W (app post F) w:=λh hS=>⟨_,⟨by rw[h],rfl⟩,SL.into hS Xi⟩
 refine Gp ?_
 refine zc (λh=>hF (mayTx_kf (by omega)) hS) (λh1=>?_)
 refine Gp ?_
 refine zc (λh=>hF (mayTx_kf (by omega)) hS) (λh2=>?_)
 refine Gp ?_
 refine zc (λhk=>?_) (λhk=>?_)
 ·refine Gp ?_
  have hx':TxIs H ⟨t.lsn,t.kind,x.cv,x.sv,t.mark⟩ t:=⟨rfl,rfl,rfl,hx.cv,hx.sv⟩
  refine Cg (Y2 H ⟨t.lsn,t.kind,x.cv,x.sv,t.mark⟩ t hx' (by omega) hk) λw hS=>?_
  (exact⟨_,⟨rfl,rfl⟩,SL.into hS Xi⟩)
 ·refine⟨λvs w=>vs=[.bool (decide (t.kind=2∨t.kind=3))]∧SL W (TxC xb x t::.mem H::F) w,?_,?_⟩
  ·refine Gp ?_
   refine zc (λh=>⟨by rw[decide_eq_true (Or.inl h)],hS⟩) (λh=>?_)
   refine Gp ?_
   exact⟨by rw[show decide (t.kind=3)=decide (t.kind=2∨t.kind=3) from decide_eq_decide.2 ⟨Or.inr,λh'=>by omega⟩],hS⟩
  clear hS
  rintro v17 w ⟨hv,hS⟩
  cases hv
  refine zc (λhk2=>?_) (λhk2=>hF (mayTx_no (by omega)) hS)
  have hM:=mayTx_k (t:=t) (by omega) hk2
  have hF2:∀{w:World},¬(1≤t.mark∧t.mark≤1099511627776∧t.changes.length=0∧t.signals.length=0)→SL W (TxC xb x t::.mem H::F) w→∃post,Gives (.bool (mayTx t)) [.mem H] (.bool false) post∧SL W (app post F) w:=λh hS=>hF (by rw[hM,decide_eq_false h]) hS
  refine Gp ?_
  refine zc (λh3=>?_) (λh3=>hF2 (by omega) hS)
  refine Gp ?_
  refine zc (λh4=>?_) (λh4=>hF2 (by omega) hS)
  refine Gp ?_
  refine zn hx.cv ?_
  refine Gp ?_
  refine zc (λh5=>?_) (λh5=>hF2 (by omega) hS)
  refine Gp ?_
  refine zn hx.sv ?_
  refine Gp ?_
  rw[hM,show decide (1≤t.mark∧t.mark≤1099511627776∧t.changes.length=0∧t.signals.length=0)=decide ((t.signals.length:Int)=0) from decide_eq_decide.2 ⟨λh=>by omega,λh=>by omega⟩]
  (exact⟨_,⟨rfl,rfl⟩,SL.into hS Xi⟩)
theorem yW(H:Heap)(x:TxV)(t:TxnD)(hx:TxIs H x t):SP 89 [agg (encTx x)] [.mem H] (Gives (.bool (mayTx t)) [.mem H]):=by
 intro W F w hS;apply vc89;unfold Vc89;(try simp only[app]at hS)
 refine zJ hS λxb w hS=>?_
 unfold encTx at hS
 rw[hx.lsn,hx.kind,hx.mark]at hS
 have hF:∀{w:World},mayTx t=false→SL W (TxC xb x t::.mem H::F) w→∃post,Gives (.bool (mayTx t)) [.mem H] (.bool false) post∧SL W (app post F) w:=λh hS=>⟨_,⟨by rw[h],rfl⟩,SL.into hS Xi⟩
 refine Gp ?_
 refine zc (λh=>hF (mayTx_kf (by omega)) hS) (λh1=>?_)
 refine Gp ?_
 refine zc (λh=>hF (mayTx_kf (by omega)) hS) (λh2=>?_)
 refine Gp ?_
 refine zc (λhk=>?_) (λhk=>?_)
 ·refine Gp ?_
  refine zc (λh=>hF (mayTx_f1 hk (by omega)) hS) (λh1=>?_)
  refine Gp ?_
  refine zn hx.cv ?_
  refine Gp ?_
  refine zc (λh=>hF (mayTx_f1 hk (by omega)) hS) (λh2=>?_)
  refine Gp ?_
  refine zn hx.sv ?_
  refine Gp ?_
  refine zc (λh=>hF (mayTx_f1 hk (by omega)) hS) (λh3=>?_)
  refine⟨λvs w=>∃i:Nat,vs=[.int .i64 i]∧i≤t.changes.length∧(∀j (hj:j<t.changes.length),j<i→mayCh t.changes[j] 8=true)∧SL W (TxC xb x t::.mem H::F) w,
   λvs _=>match vs with|[.int _ i]=>(t.changes.length-i).toNat|_=>0,⟨0,rfl,by omega,λj hj h=>by omega,hS⟩,?_⟩
  clear hS
  rintro v3 w ⟨i,hvs,hi,hall,hS⟩
  cases hvs
  refine Gp ?_
  refine zn hx.cv ?_
  refine Gp ?_
  refine zc (λh=>?_) (λh=>?_)
  ·have hil:i<t.changes.length:=by omega
   refine Gp ?_
   refine zU hS Xh encChg_len hx.cv (x:=t.changes[i]) (by simp[hil]) hil ?_
   refine Cg (qa t.changes[i] 8) λw hS=>?_
   refine zA (λh=>hF (mayTx_f2 hk hil h) (SL.into hS Xi)) (λh=>?_)
   refine Gp ?_
   refine⟨⟨i+1,rfl,by omega,λj hj hji=>?_,SL.into hS Xi⟩,by dsimp only;omega⟩
   by_cases e:j=i
   ·subst e;exact h
   ·exact hall j hj (by omega)
  ·have hie:i=t.changes.length:=by omega
   have hops:∀j (hj:j<t.changes.length),mayCh t.changes[j] 8=true:=λj hj=>hall j hj (by omega)
   clear hall
   refine⟨λvs w=>∃i:Nat,vs=[.int .i64 i]∧i≤t.signals.length∧(∀j (hj:j<t.signals.length),j<i→t.signals[j].size≤40)∧SL W (TxC xb x t::.mem H::F) w,
    λvs _=>match vs with|[.int _ i]=>(t.signals.length-i).toNat|_=>0,⟨0,rfl,by omega,λj hj h=>by omega,SL.into hS Xi⟩,?_⟩
   clear hS
   rintro v5 w ⟨i,hvs,hi,hall,hS⟩
   cases hvs
   refine Gp ?_
   refine zn hx.sv ?_
   refine Gp ?_
   refine zc (λh=>?_) (λh=>?_)
   ·have hil:i<t.signals.length:=by omega
    refine Gp ?_
    refine yP hS Xh hx.sv hil (u:=.string t.signals[i]) (by simp[hil]) ?_
    refine Gp ?_
    refine zc (λh=>hF (mayTx_f3 hk hil (by omega)) (SL.into hS Xi)) (λh=>?_)
    refine Gp ?_
    refine⟨⟨i+1,rfl,by omega,λj hj hji=>?_,SL.into hS Xi⟩,by dsimp only;omega⟩
    by_cases e:j=i
    ·subst e;omega
    ·exact hall j hj (by omega)
   ·rw[mayTx_t (by omega) hk (by omega) hops λj hj=>hall j hj (by omega)]
    (exact⟨_,⟨rfl,rfl⟩,SL.into hS Xi⟩)
 ·refine⟨λvs w=>vs=[.bool (decide (t.kind=2∨t.kind=3))]∧SL W (TxC xb x t::.mem H::F) w,?_,?_⟩
  ·refine Gp ?_
   refine zc (λh=>⟨by rw[decide_eq_true (Or.inl h)],hS⟩) (λh=>?_)
   refine Gp ?_
   exact⟨by rw[show decide (t.kind=3)=decide (t.kind=2∨t.kind=3) from decide_eq_decide.2 ⟨Or.inr,λh'=>by omega⟩],hS⟩
  clear hS
  rintro v17 w ⟨hv,hS⟩
  cases hv
  refine zc (λhk2=>?_) (λhk2=>hF (mayTx_no (by omega)) hS)
  have hM:=mayTx_k (t:=t) (by omega) hk2
  have hF2:∀{w:World},¬(1≤t.mark∧t.mark≤1099511627776∧t.changes.length=0∧t.signals.length=0)→SL W (TxC xb x t::.mem H::F) w→∃post,Gives (.bool (mayTx t)) [.mem H] (.bool false) post∧SL W (app post F) w:=λh hS=>hF (by rw[hM,decide_eq_false h]) hS
  refine Gp ?_
  refine zc (λh3=>?_) (λh3=>hF2 (by omega) hS)
  refine Gp ?_
  refine zc (λh4=>?_) (λh4=>hF2 (by omega) hS)
  refine Gp ?_
  refine zn hx.cv ?_
  refine Gp ?_
  refine zc (λh5=>?_) (λh5=>hF2 (by omega) hS)
  refine Gp ?_
  refine zn hx.sv ?_
  refine Gp ?_
  rw[hM,show decide (1≤t.mark∧t.mark≤1099511627776∧t.changes.length=0∧t.signals.length=0)=decide ((t.signals.length:Int)=0) from decide_eq_decide.2 ⟨λh=>by omega,λh=>by omega⟩]
  (exact⟨_,⟨rfl,rfl⟩,SL.into hS Xi⟩)
section
variable (b:Nat) (x1 x2 x3:Int) (t:TypeId)
theorem ints3:SP 225 [.slice (some ⟨b,0,none⟩) 3 3] [.pt b [.int .i64 x1,.int .i64 x2,.int .i64 x3] t] (λu post=>post=[FdO u [iF x1,iF x2,iF x3]]):=Zn b [x1,x2,x3] t (by simp)
end
def EncTQ(H:Heap)(t:TxnD)(u:Value)(post:List Chunk):Prop:=match encTxn t with
 | .error e=>u= .tuple #[.slice none 0 0,.int .i64 e]∧post=[.mem H]
 | .ok b=>∃v,u= .tuple #[v,.int .i64 0]∧post=[.ob (OwnSl v 5 1 b.length (b.map u8c)),.mem H]
def fTA(t:TxnD)(i:Nat):List PFd:=[iF t.lsn,iF t.kind,iF t.mark,iF t.changes.length]++((t.changes.take i).map fdsCh).flatten
def fTB(t:TxnD)(i:Nat):List PFd:=fTA t t.changes.length++[iF t.signals.length]++(t.signals.take i).map tF
theorem fTA_s{t:TxnD}{i:Nat}(h:i<t.changes.length):fTA t (i+1)=fTA t i++fdsCh t.changes[i]:=by
 unfold fTA;rw[List.take_succ_eq_append_getElem h,List.map_append,List.flatten_append,List.map_singleton,List.flatten_singleton,List.append_assoc]
theorem fTB_s{t:TxnD}{i:Nat}(h:i<t.signals.length):fTB t (i+1)=fTB t i++[tF t.signals[i]]:=by
 unfold fTB;rw[List.take_succ_eq_append_getElem h,List.map_append,List.map_singleton,← List.append_assoc]
theorem fTB_e(t:TxnD):fTB t t.signals.length=fdsTx t:=by
 unfold fTB fTA fdsTx;simp
theorem fTA_len(t:TxnD)(i:Nat):(fTA t i).length≤4+4*i:=by
 unfold fTA
 rw[List.length_append,flatN_len (n:=4) (λ_=>rfl),List.length_take]
 simp;omega
theorem fTB_len(t:TxnD)(i:Nat):(fTB t i).length≤5+4*t.changes.length+i:=by
 have:=fTA_len t t.changes.length
 unfold fTB
 rw[List.length_append,List.length_append,List.length_map,List.length_take]
 simp;omega
theorem qK(H:Heap)(x:TxV)(t:TxnD)(hx:TxIs H x t):SP 146 [agg (encTx x)] [.mem H] (EncTQ H t):=by
 intro W F w hS;apply vc146;unfold Vc146;(try simp only[app]at hS)
 refine zJ hS λxb w hS=>?_
 refine Gp ?_
 refine Cg (yp H x t hx) λw hS=>?_
 refine zA (λh=>?_) (λhm=>?_)
 ·exact⟨[.mem H],by unfold EncTQ encTxn;rw[if_neg (by rw[h];decide)];exact⟨rfl,rfl⟩,SL.into hS Xi⟩
 have hb:=mayTx_all hm
 unfold encTx at hS
 rw[hx.lsn,hx.kind,hx.mark]at hS
 refine Gp ?_
 refine zn hx.cv ?_
 refine Gm λb w hS=>?_
 (refine Cc (ints4 b t.lsn t.kind t.mark t.changes.length 2) ?_;clear hS)
 rintro u post rfl w hS
 (try simp only[app]at hS);refine Gp ?_
 refine zn hx.cv ?_
 have hS:SL W (FdO u (fTA t 0)::_) _:=hS
 refine⟨λvs w=>∃(i:Nat) (u:Value),vs=[u,.int .i64 i]∧i≤t.changes.length∧SL W (FdO u (fTA t i)::TxC xb x t::.mem H::F) w,
  λvs _=>match vs with|[_,.int _ i]=>(t.changes.length-i).toNat|_=>0,⟨0,_,rfl,by omega,SL.into hS Xi⟩,?_⟩
 clear hS
 rintro u v3 w ⟨i,_,hvs,hi,hS⟩
 cases hvs
 have hAl:=fTA_len t i
 refine Gp ?_
 refine zc (λh=>?_) (λh=>?_)
 ·have hil:i<t.changes.length:=by omega
  have hs:=fTA_s hil
  refine zU hS Xh encChg_len hx.cv (x:=t.changes[i]) (by simp[hil]) hil ?_
  generalize t.changes[i]=o at *
  obtain⟨ot,ok,og,ov⟩:=o
  refine Gm λb w hS=>?_
  unfold encChg at hS
  refine Cg (QU og) λw hS=>?_;refine Gm λb w hS=>?_
  (refine Cc (ints3 b ot ok (bitI og) 2) ?_;clear hS)
  rintro u2 post rfl w hS
  (try simp only[app]at hS)
  refine yy (L:=fTA t i) hS Xr (src_own hS Xh) (by simp;omega) λu3 w hS=>?_
  refine Gp ?_
  refine Cg (ZR ov) λw hS=>?_;refine Gm λb w hS=>?_
  refine yy (M:=[tF ov]) hS Xr (src_fd1 hS Xh) (by simp;omega) λu4 w hS=>?_
  refine Gp ?_
  refine⟨⟨i+1,_,rfl,by omega,?_⟩,by dsimp only;omega⟩
  rw[hs]
  simp only[List.append_assoc]at hS
  have hS:SL W (FdO _ (fTA t i++fdsCh ⟨ot,ok,og,ov⟩)::_) _:=hS
  exact SL.into hS Xi
 ·have hie:i=t.changes.length:=by omega
  subst hie
  refine Gp ?_
  refine zn hx.sv ?_
  refine Gm λb w hS=>?_
  (refine Cc (ints1 b t.signals.length 2) ?_;clear hS)
  rintro u2 post rfl w hS
  (try simp only[app]at hS)
  refine yy (L:=fTA t t.changes.length) hS Xr (src_own hS Xh) (by simp;omega) λu3 w hS=>?_
  refine Gp ?_
  refine zn hx.sv ?_
  refine⟨λvs w=>∃(i:Nat) (u:Value),vs=[u,.int .i64 i]∧i≤t.signals.length∧SL W (FdO u (fTB t i)::TxC xb x t::.mem H::F) w,
   λvs _=>match vs with|[_,.int _ i]=>(t.signals.length-i).toNat|_=>0,⟨0,u3,rfl,by omega,?_⟩,?_⟩
  ·rw[show fTB t 0=fTA t t.changes.length++[iF t.signals.length] by unfold fTB;simp]
   exact SL.into hS Xi
  clear hS
  rintro u v3 w ⟨i,_,hvs,hi,hS⟩
  cases hvs
  have hBl:=fTB_len t i
  refine Gp ?_
  refine zc (λh=>?_) (λh=>?_)
  ·have hil:i<t.signals.length:=by omega
   have hs:=fTB_s hil
   refine yP hS Xh hx.sv hil (u:=.string t.signals[i]) (by simp[hil]) ?_
   refine Cg (ZR t.signals[i]) λw hS=>?_;refine Gm λb w hS=>?_
   refine yy (L:=fTB t i) (M:=[tF t.signals[i]]) hS Xr (src_fd1 hS Xh) (by simp;omega) λu3 w hS=>?_
   refine Gp ?_
   refine⟨⟨i+1,_,rfl,by omega,?_⟩,by dsimp only;omega⟩
   rw[hs]
   exact SL.into hS Xi
  ·have hie:i=t.signals.length:=by omega
   subst hie
   rw[fTB_e]at hS hBl
   (refine Cc (Zw (FdO u (fdsTx t)) u (fdsTx t) Rdn.own (by omega)) ?_;clear hS)
   rintro r post hq w hS
   (try simp only[app]at hS)
   unfold EncQ at hq
   unfold EncTQ encTxn
   rw[if_pos hm]
   cases he:encFs (fdsTx t) with
   | error e=>
    rw[he]at hq
    obtain⟨rfl,rfl⟩:=hq
    (try simp only[app]at hS);refine Gp ?_
    exact⟨_,⟨rfl,rfl⟩,SL.into hS Xi⟩
   | ok bs=>
    rw[he]at hq
    obtain⟨v,rfl,rfl⟩:=hq
    (try simp only[app]at hS);refine Gp ?_
    exact⟨_,⟨v,rfl,rfl⟩,SL.into hS Xi⟩
theorem qX(H:Heap)(x:TxV)(t:TxnD)(hx:TxIs H x t):SP 183 [agg (encTx x)] [.mem H] (EncTQ H t):=by
 intro W F w hS;apply vc183;unfold Vc183;(try simp only[app]at hS)
 refine zJ hS λxb w hS=>?_
 refine Gp ?_
 refine Cg (yW H x t hx) λw hS=>?_
 refine zA (λh=>?_) (λhm=>?_)
 ·exact⟨[.mem H],by unfold EncTQ encTxn;rw[if_neg (by rw[h];decide)];exact⟨rfl,rfl⟩,SL.into hS Xi⟩
 have hb:=mayTx_all hm
 unfold encTx at hS
 rw[hx.lsn,hx.kind,hx.mark]at hS
 refine Gn λw hS=>?_
 refine zn hx.cv ?_
 refine Cg (zM t.lsn) λw hS=>?_
 refine Cg (zM t.kind) λw hS=>?_
 refine Cg (zM t.mark) λw hS=>?_
 refine Cg (zM t.changes.length) λw hS=>?_
 refine zB hS (fill4F (iF t.lsn) (iF t.kind) (iF t.mark) (iF t.changes.length)) λb w hS=>?_
 have hS:=OwnSl.full (n:=4) (sz:=3) rfl hS
 have hS:SL W (FdO _ (fTA t 0)::_) _:=hS
 refine⟨λvs w=>∃(i:Nat) (u:Value),vs=[u,.int .i64 i]∧i≤t.changes.length∧SL W (FdO u (fTA t i)::TxC xb x t::.mem H::F) w,
  λvs _=>match vs with|[_,.int _ i]=>(t.changes.length-i).toNat|_=>0,⟨0,_,rfl,by omega,SL.into hS Xi⟩,?_⟩
 clear hS
 rintro u v3 w ⟨i,_,hvs,hi,hS⟩
 cases hvs
 have hAl:=fTA_len t i
 refine Gp ?_
 refine zn hx.cv ?_
 refine Gp ?_
 refine zc (λh=>?_) (λh=>?_)
 ·have hil:i<t.changes.length:=by omega
  have hs:=fTA_s hil
  refine Gp ?_
  refine zU hS Xh encChg_len hx.cv (x:=t.changes[i]) (by simp[hil]) hil ?_
  (refine Cc (QW t.changes[i]) ?_;clear hS)
  rintro u2 post rfl w hS
  (try simp only[app]at hS)
  refine yy (L:=fTA t i) hS Xr (src_own hS Xh) (by simp[fdsCh];omega) λu4 w hS=>?_
  refine Gp ?_
  refine⟨⟨i+1,_,rfl,by omega,?_⟩,by dsimp only;omega⟩
  rw[hs]
  exact SL.into hS Xi
 ·have hie:i=t.changes.length:=by omega
  subst hie
  refine Gp ?_
  refine zn hx.sv ?_
  refine Cg (zM t.signals.length) λw hS=>?_;refine Gm λb w hS=>?_
  refine yy (L:=fTA t t.changes.length) (M:=[iF t.signals.length]) hS Xr (src_fd1 hS Xh) (by simp;omega) λu3 w hS=>?_
  refine⟨λvs w=>∃(i:Nat) (u:Value),vs=[u,.int .i64 i]∧i≤t.signals.length∧SL W (FdO u (fTB t i)::TxC xb x t::.mem H::F) w,
   λvs _=>match vs with|[_,.int _ i]=>(t.signals.length-i).toNat|_=>0,⟨0,u3,rfl,by omega,?_⟩,?_⟩
  ·rw[show fTB t 0=fTA t t.changes.length++[iF t.signals.length] by unfold fTB;simp]
   exact SL.into hS Xi
  clear hS
  rintro u v3 w ⟨i,_,hvs,hi,hS⟩
  cases hvs
  have hBl:=fTB_len t i
  refine Gp ?_
  refine zn hx.sv ?_
  refine Gp ?_
  refine zc (λh=>?_) (λh=>?_)
  ·have hil:i<t.signals.length:=by omega
   have hs:=fTB_s hil
   refine Gp ?_
   refine yP hS Xh hx.sv hil (u:=.string t.signals[i]) (by simp[hil]) ?_
   refine Cg (y5 t.signals[i]) λw hS=>?_;refine Gm λb w hS=>?_
   refine yy (L:=fTB t i) (M:=[tF t.signals[i]]) hS Xr (src_fd1 hS Xh) (by simp;omega) λu3 w hS=>?_
   refine Gp ?_
   refine⟨⟨i+1,_,rfl,by omega,?_⟩,by dsimp only;omega⟩
   rw[hs]
   exact SL.into hS Xi
  ·have hie:i=t.signals.length:=by omega
   subst hie
   rw[fTB_e]at hS hBl
   (refine Cc (yN (FdO u (fdsTx t)) u (fdsTx t) Rdn.own (by omega)) ?_;clear hS)
   rintro r post hq w hS
   (try simp only[app]at hS)
   unfold EncQ at hq
   unfold EncTQ encTxn
   rw[if_pos hm]
   cases he:encFs (fdsTx t) with
   | error e=>
    rw[he]at hq
    obtain⟨rfl,rfl⟩:=hq
    (try simp only[app]at hS);refine Gp ?_
    exact⟨_,⟨rfl,rfl⟩,SL.into hS Xi⟩
   | ok bs=>
    rw[he]at hq
    obtain⟨v,rfl,rfl⟩:=hq
    (try simp only[app]at hS);refine Gp ?_
    exact⟨_,⟨v,rfl,rfl⟩,SL.into hS Xi⟩
structure AnyAt{α:Type}(one:PRd→α × PRd)(n:Nat)(r0:PRd)(xs:List α)(k:Nat)(r:PRd):Prop where
 eq:manyA one n r0=(xs++(manyA one k r).1,(manyA one k r).2)
 le:xs.length+k≤n
theorem AnyAt.start{α:Type}(one:PRd→α × PRd)(n:Nat)(r:PRd):AnyAt one n r [] n r:=⟨rfl,by simp⟩
theorem AnyAt.step{α:Type}{one:PRd→α × PRd}{n:Nat}{r0:PRd}{xs:List α}{k:Nat}{r:PRd}(h:AnyAt one n r0 xs (k+1) r):AnyAt one n r0 (xs++[(one r).1]) k (one r).2:=
 ⟨by rw[h.eq];simp[manyA],by have:=h.le;rw[List.length_append,List.length_singleton];omega⟩
theorem AnyAt.stop{α:Type}{one:PRd→α × PRd}{n:Nat}{r0:PRd}{xs:List α}{r:PRd}(h:AnyAt one n r0 xs 0 r):manyA one n r0=(xs,r):=by
 rw[h.eq];simp[manyA]
theorem Yy(rp:Nat)(r:PRd):SP 161 [.pointer (some ⟨rp,0,none⟩)] [.ob (PRdO rp r)] (Gives (agg (encChg (chP r).1)) [.ob (PRdO rp (chP r).2)]):=by
 intro W F w hS;apply vc161;unfold Vc161;(try simp only[app]at hS)
 refine Gm λb w hS=>?_
 refine Cg (zW rp r 8) λw hS=>?_
 refine Cg (yB rp _) λw hS=>?_
 refine Cg (qH rp _) λw hS=>?_
 refine Cg (yU rp _) λw hS=>?_
 simp only[chP]
 exact⟨_,⟨rfl,rfl⟩,SL.into hS Xi⟩
theorem encTx_one1{lsn kind mark:Int}{cv sv:Value}(h1:cv.oneCell'=true)(h2:sv.oneCell'=true):∀v∈encTx ⟨lsn,kind,cv,sv,mark⟩,v.oneCell'=true:=by
 intro v hv
 simp only[encTx,List.mem_cons,List.not_mem_nil,or_false]at hv
 rcases hv with rfl|rfl|rfl|rfl|rfl
 ·rfl
 ·rfl
 ·exact h1
 ·exact h2
 ·rfl
def zTx:TxV:=⟨0,0,.slice none 0 0,.slice none 0 0,0⟩
abbrev ZTx(b:Nat):Chunk:=.pt b [.int .i64 0,.int .i64 0,.slice none 0 0,.slice none 0 0,.int .i64 0] 39
def DecTQ(X:Chunk)(H:Heap)(b:List UInt8)(u:Value)(post:List Chunk):Prop:=match decTxn b with
 | .error e=>e≠0∧∃H',H.le H'∧u= .tuple #[agg (encTx zTx),.int .i64 e]∧post=[X,.mem H']
 | .ok t=>∃x H',H.le H'∧u= .tuple #[agg (encTx x),.int .i64 0]∧TxIs H' x t∧post=[X,.mem H']
theorem decTxn_er{b:List UInt8}{e:Int}(h:decF b= .error e):decTxn b= .error e:=by unfold decTxn;rw[h]
theorem decTxn_no{b:List UInt8}{l:List PFd}(h:decF b= .ok l)(h2:¬((txP ⟨l,false⟩).2.bad=false∧(txP ⟨l,false⟩).2.l=[]∧mayTx (txP ⟨l,false⟩).1=true)):decTxn b= .error 3:=by
 unfold decTxn decTI;rw[h];simp only;rw[if_neg h2]
theorem decTxn_is{b:List UInt8}{l:List PFd}(h:decF b= .ok l)(h2:(txP ⟨l,false⟩).2.bad=false∧(txP ⟨l,false⟩).2.l=[]∧mayTx (txP ⟨l,false⟩).1=true):decTxn b= .ok (txP ⟨l,false⟩).1:=by
 unfold decTxn decTI;rw[h];simp only;rw[if_pos h2]
abbrev ChO(v:Value)(l:List Chg):Chunk:=.ob (OwnSl v 82 4 l.length (l.map encChg).flatten)
abbrev SgO(v:Value)(l:List ByteArray):Chunk:=.ob (OwnSl v 9 1 l.length (l.map λs=>[Value.string s]).flatten)
theorem strs_flat(l:List ByteArray):(l.map λs=>[Value.string s]).flatten=l.map Value.string:=by
 induction l with
 | nil=>rfl
 | cons a l ih=>simp[ih]
structure TxRd(l:List PFd)(lsn kind mark:Int)(r3:PRd):Prop where
 lsn:(txP ⟨l,false⟩).1.lsn=lsn
 kind:(txP ⟨l,false⟩).1.kind=kind
 mark:(txP ⟨l,false⟩).1.mark=mark
 ch:(txP ⟨l,false⟩).1.changes=(manyA chP (smallP 16 r3).1.toNat (smallP 16 r3).2).1
 sg:∀r4,(manyA chP (smallP 16 r3).1.toNat (smallP 16 r3).2).2=r4→(txP ⟨l,false⟩).1.signals=(manyA textP (smallP 2 r4).1.toNat (smallP 2 r4).2).1∧(txP ⟨l,false⟩).2=(manyA textP (smallP 2 r4).1.toNat (smallP 2 r4).2).2
theorem TxRd.is(l:List PFd):TxRd l (intP ⟨l,false⟩).1 (smallP 3 (intP ⟨l,false⟩).2).1 (intP (smallP 3 (intP ⟨l,false⟩).2).2).1 (intP (smallP 3 (intP ⟨l,false⟩).2).2).2:=⟨rfl,rfl,rfl,rfl,λr4 h=>by subst h;exact⟨rfl,rfl⟩⟩
theorem qJ(X:Chunk)(H:Heap)(v:Value)(bs:List UInt8)(hv:Rdb X v bs):SP 72 [v] [X,.mem H] (DecTQ X H bs):=by
 intro W F w hS;apply vc72;unfold Vc72;(try simp only[app]at hS)
 refine Gb λzb w hS=>?_
 (refine Cc (yS X v bs hv) ?_;clear hS)
 rintro r post hq w hS
 unfold DecQ at hq
 cases hd:decF bs with
 | error e=>
  rw[hd]at hq
  obtain⟨rfl,rfl⟩:=hq
  have he:=decF_er hd
  (try simp only[app]at hS);refine Gp ?_
  refine zc (λ_=>?_) (λh=>absurd he h)
  refine Gn λw hS=>?_
  exact⟨[X,.mem H],by unfold DecTQ;rw[decTxn_er hd];exact⟨he,H,Heap.le_refl H,rfl,rfl⟩,SL.into hS Xi⟩
 | ok l=>
  rw[hd]at hq
  obtain⟨lv,rfl,rfl⟩:=hq
  (try simp only[app]at hS);refine Gp ?_
  refine zc (λh=>absurd rfl h) (λ_=>?_)
  (refine Cc (ZQ lv l) ?_;clear hS)
  rintro _ post ⟨rp,rfl,rfl⟩ w hS
  (try simp only[app]at hS)
  (refine Cc (yB rp ⟨l,false⟩) ?_;clear hS)
  rintro v1 post ⟨rfl,rfl⟩ w hS
  (try simp only[app]at hS)
  (refine Cc (zW rp _ 3) ?_;clear hS)
  rintro v1 post ⟨rfl,rfl⟩ w hS
  (try simp only[app]at hS)
  (refine Cc (yB rp _) ?_;clear hS)
  rintro v1 post ⟨rfl,rfl⟩ w hS
  (try simp only[app]at hS)
  have hI:=TxRd.is l
  generalize (intP (smallP 3 (intP ⟨l,false⟩).2).2).1=mark at *
  generalize (intP (smallP 3 (intP ⟨l,false⟩).2).2).2=r3 at *
  generalize (smallP 3 (intP ⟨l,false⟩).2).1=kind at *
  generalize (intP ⟨l,false⟩).1=lsn at *
  have hn1:=smallP_in (m:=16) (by decide) r3
  refine Gp ?_
  refine Gb λxb w hS=>?_
  have hS:SL W (ChO (.slice none 0 0) []::_) _:=OwnSl.nil hS
  have hS:SL W (SgO (.slice none 0 0) []::_) _:=OwnSl.nil hS
  (refine Cc (zW rp r3 16) ?_;clear hS)
  rintro v1 post ⟨rfl,rfl⟩ w hS
  (try simp only[app]at hS)
  have hch:=hI.ch
  have hsg:=hI.sg
  generalize (smallP 16 r3).1=n1 at *
  generalize (smallP 16 r3).2=r2 at *
  refine⟨λus w=>∃(k:Nat) (chs:List Chg) (r:PRd) (cv:Value),us=[.int .i64 k]∧AnyAt chP n1.toNat r2 chs k r∧SL W (ChO cv chs::.ob (PRdO rp r)::SgO (.slice none 0 0) []::.pt xb [.int .i64 lsn,.int .i64 kind,cv,.slice none 0 0,.int .i64 mark] 39::ZTx zb::X::.mem H::F) w,
   λus _=>match us with|[.int _ i]=>i.toNat|_=>0,⟨n1.toNat,[],r2,.slice none 0 0,by rw[show ((n1.toNat:Nat):Int)=n1 by omega],AnyAt.start _ _ _,SL.into hS Xi⟩,?_⟩
  clear hS
  rintro v8 w ⟨k,chs,r,cv,hus,hM,hS⟩
  cases hus
  have hle:=hM.le
  refine Gp ?_
  refine zc (λh=>?_) (λh=>?_)
  ·obtain⟨k,rfl⟩:∃j,k=j+1:=⟨k-1,by omega⟩
   have hM:=hM.step
   refine Gn λw hS=>?_
   refine Cg (Yy rp r) λw hS=>?_;refine Gm λb w hS=>?_
   refine yr (n:=chs.length) (xs:=chs) (y:=(chP r).1) (enc:=encChg) hS Xr Xh encChg_len (λx=>encChg_one x) rfl (by omega) (by omega) λu w hS=>?_
   have h1:=OwnSl.one hS
   refine Gn λw hS=>?_
   refine⟨⟨k,_,_,u,by rw[show ((k+1:Nat):Int)-1=(k:Int) by omega],hM,?_⟩,by dsimp only;omega⟩
   have hS:=hS.snocL (x:=(chP r).1)
   exact SL.into hS Xi
  ·obtain rfl:k=0:=by omega
   rw[hM.stop]at hch hsg
   obtain⟨hsgn,hrd⟩:=hsg r rfl
   have hn2:=smallP_in (m:=2) (by decide) r
   (refine Cc (zW rp r 2) ?_;clear hS)
   rintro v1 post ⟨rfl,rfl⟩ w hS
   (try simp only[app]at hS)
   generalize (smallP 2 r).1=n2 at *
   generalize (smallP 2 r).2=r5 at *
   refine⟨λus w=>∃(k:Nat) (sgs:List ByteArray) (r:PRd) (sv:Value),us=[.int .i64 k]∧AnyAt textP n2.toNat r5 sgs k r∧SL W (SgO sv sgs::.ob (PRdO rp r)::ChO cv chs::.pt xb [.int .i64 lsn,.int .i64 kind,cv,sv,.int .i64 mark] 39::ZTx zb::X::.mem H::F) w,
    λus _=>match us with|[.int _ i]=>i.toNat|_=>0,⟨n2.toNat,[],r5,.slice none 0 0,by rw[show ((n2.toNat:Nat):Int)=n2 by omega],AnyAt.start _ _ _,SL.into hS Xi⟩,?_⟩
   clear hS
   rintro v8 w ⟨k,sgs,r,sv,hus,hM2,hS⟩
   cases hus
   have hle:=hM2.le
   refine Gp ?_
   refine zc (λh=>?_) (λh=>?_)
   ·obtain⟨k,rfl⟩:∃j,k=j+1:=⟨k-1,by omega⟩
    have hM2:=hM2.step
    refine Gn λw hS=>?_
    refine Cg (yU rp r) λw hS=>?_;refine Gm λb w hS=>?_
    refine yr (n:=sgs.length) (xs:=sgs) (y:=(textP r).1) (enc:=λs=>[Value.string s]) hS Xr Xh (λ_=>rfl) (by simp[Value.oneCell']) rfl (by omega) (by omega) λu w hS=>?_
    have h1:=OwnSl.one hS
    refine Gn λw hS=>?_
    refine⟨⟨k,_,_,u,by rw[show ((k+1:Nat):Int)-1=(k:Int) by omega],hM2,?_⟩,by dsimp only;omega⟩
    have hS:=hS.snocL (x:=(textP r).1)
    exact SL.into hS Xi
   ·obtain rfl:k=0:=by omega
    rw[hM2.stop]at hsgn hrd
    have hlsn:=hI.lsn
    have hkind:=hI.kind
    have hmark:=hI.mark
    have hch:(txP ⟨l,false⟩).1.changes=chs:=hch
    have hsgn:(txP ⟨l,false⟩).1.signals=sgs:=hsgn
    have hrd:(txP ⟨l,false⟩).2=r:=hrd
    generalize ht:(txP ⟨l,false⟩).1=t at *
    generalize hr:(txP ⟨l,false⟩).2=r' at *
    subst hrd hch hsgn
    obtain⟨H1,h01,hO,hS⟩:=OwnSl.freeze (SL.into hS (t:=.mem H::ChO cv t.changes::SgO sv t.signals::.ob (PRdO rp r')::.pt xb [.int .i64 lsn,.int .i64 kind,cv,sv,.int .i64 mark] 39::ZTx zb::X::F) Xi)
    obtain⟨H2,h12,hN,hS⟩:=OwnSl.freeze hS
    rw[strs_flat]at hN
    have hx:TxIs H2 ⟨lsn,kind,cv,sv,mark⟩ t:=⟨hlsn.symm,hkind.symm,hmark.symm,hO.mono h12,hN⟩
    have h02:=Heap.le_trans h01 h12
    have hc1:=hO.one
    have hc2:=hN.one
    refine Cg (ZO rp r') λw hS=>?_
    have hno:¬(r'.bad=false∧r'.l=[]∧mayTx t=true)→∀{w:World},SL W (X::.mem H2::F) w→∃post,DecTQ X H bs (.tuple #[agg (encTx zTx),.int .i64 3]) post∧SL W (app post F) w:=λh w hS=>⟨[X,.mem H2],by unfold DecTQ;rw[decTxn_no hd (by rw[ht,hr];exact h)];exact⟨by decide,H2,h02,rfl,rfl⟩,hS⟩
    refine zA (λhb=>?_) (λhb=>?_)
    ·have hb:=of_decide_eq_false hb
     refine Gn λw hS=>?_
     exact hno (λh=>hb ⟨h.1,h.2.1⟩) (SL.into hS Xi)
    ·have hb:=of_decide_eq_true hb
     refine Gp ?_
     refine Cg (yp H2 ⟨lsn,kind,cv,sv,mark⟩ t hx) λw hS=>?_
     refine zA (λhm=>?_) (λhm=>?_)
     ·refine Gn λw hS=>?_
      exact hno (λh=>by rw[h.2.2]at hm;cases hm) (SL.into hS Xi)
     ·refine Gp ?_
      refine zL (vs:=encTx ⟨lsn,kind,cv,sv,mark⟩) hS Xu rfl rfl (encTx_one1 hc1 hc2) λw hS=>?_
      refine Gp ?_
      exact⟨[X,.mem H2],by unfold DecTQ;rw[decTxn_is hd (by rw[ht,hr];exact⟨hb.1,hb.2,hm⟩),ht];exact⟨⟨lsn,kind,cv,sv,mark⟩,H2,h02,rfl,hx,rfl⟩,SL.into hS Xi⟩
theorem Z4(H:Heap)(v:Value)(C:List Row)(hC:RdSl H 2 v C.length (C.map encRow).flatten)(hn:C.length≤140737488351232):SP 288 [v] [.mem H] (Gives (.bool (mayRw C)) [.mem H]):=by
 intro W F w hS;apply vc288;unfold Vc288;(try simp only[app]at hS)
 refine zn hC ?_
 refine⟨λus w=>∃(i:Nat) (k:Int),us=[.int .i64 k,.int .i64 i]∧i≤C.length∧riseR 0 C=riseR k (C.drop i)∧SL W (.mem H::F) w,λus _=>match us with|[_,.int _ i]=>(C.length-i).toNat|_=>0,⟨0,0,rfl,by omega,rfl,hS⟩,?_⟩
 clear hS
 rintro v3 v8 w ⟨i,k,hus,hi,hr,hS⟩
 cases hus
 refine Gp ?_
 refine zc (λh=>?_) (λh=>?_)
 ·have hil:i<C.length:=by omega
  rw[List.drop_eq_getElem_cons hil,riseR]at hr
  refine zU hS Xh encRow_len hC (x:=C[i]) (by simp[hil]) hil ?_
  generalize C[i]=r at *
  obtain⟨rk,rv⟩:=r
  have hF:∀{w:World} {b:Nat},¬(k<rk∧rk≤1099511627776∧rv.size≤32)→SL W (.pt b [.int .i64 rk,.string rv] 52::.mem H::F) w→∃post,Gives (.bool (mayRw C)) [.mem H] (.bool false) post∧SL W (app post F) w:=λhno hS=>
   ⟨_,⟨by unfold mayRw;rw[hr,decide_eq_false hno];rfl,rfl⟩,SL.into hS Xi⟩
  rw[encRow_eq]
  refine Gm λb w hS=>?_
  refine zc (λh1=>hF (by omega) hS) (λh1=>?_)
  refine Gp ?_
  refine zc (λh2=>hF (by omega) hS) (λh2=>?_)
  refine Gp ?_
  refine zc (λh3=>hF (by omega) hS) (λh3=>?_)
  refine Gp ?_
  refine⟨⟨i+1,rk,rfl,by omega,?_,SL.into hS Xi⟩,by dsimp only;omega⟩
  rw[hr,decide_eq_true (show k<rk∧rk≤1099511627776∧rv.size≤32 by omega)];rfl
 ·have hie:i=C.length:=by omega
  subst hie
  rw[List.drop_length]at hr
  refine zn hC ?_
  refine Gp ?_
  have e:mayRw C=decide ((C.length:Int)≤1000):=by
   unfold mayRw;rw[hr]
   show (true && _)=_
   rw[Bool.true_and,decide_eq_decide];omega
  rw[e]
  (exact⟨_,⟨rfl,rfl⟩,SL.into hS Xi⟩)
def RdTs(H:Heap)(v:Value)(ts:List (List Row)):Prop:=∃vs,RdSl H 1 v ts.length vs∧Rd2 H vs ts
theorem yn{H:Heap}{v:Value}{ts:List (List Row)}{K:Value→Prop}(h:RdTs H v ts)(k:K (.int .i64 ts.length)):zf v K:=by
 obtain⟨vs,h1,_⟩:=h
 exact zn h1 k
theorem YE{W w:World}{l:List Chunk}{H:Heap}{v:Value}{ts:List (List Row)}{j:Nat}{k:IntKind}{K:Value→Prop}(hS:SL W l w)(hm:Has (.mem H) l)(h:RdTs H v ts)(hj:j<ts.length)
  (hK:∀u,RdSl H 2 u ts[j].length (ts[j].map encRow).flatten→K u):zj 1 v (.int k (j:Int)) λp=>HLd p w K:=by
 obtain⟨vs,h1,h2⟩:=h
 have hl:=h2.1
 have hu:vs[j]?=some (vs[j]'(by omega)):=List.getElem?_eq_getElem (by omega)
 exact yP hS hm h1 hj hu (hK _ (h2.2 j _ _ hu (List.getElem?_eq_getElem hj)))
theorem Yz(H:Heap)(v:Value)(lsn:Int)(ts:List (List Row))(hv:RdTs H v ts)(hn:ts.length≤140737488351232)(hc:∀C∈ts,C.length≤140737488351232):SP 230 [.int .i64 lsn,v] [.mem H] (Gives (.bool (mayImg lsn ts)) [.mem H]):=by
 intro W F w hS;apply vc230;unfold Vc230;(try simp only[app]at hS)
 have hF:∀{w:World},¬(0≤lsn∧lsn≤1099511627776∧1≤ts.length∧ts.length≤8)→SL W (.mem H::F) w→∃post,Gives (.bool (mayImg lsn ts)) [.mem H] (.bool false) post∧SL W (app post F) w:=λhno hS=>⟨_,⟨by unfold mayImg;rw[decide_eq_false hno];rfl,rfl⟩,hS⟩
 refine Gp ?_
 refine zc (λh=>hF (by omega) hS) (λh1=>?_)
 refine Gp ?_
 refine zc (λh=>hF (by omega) hS) (λh2=>?_)
 refine yn hv ?_
 refine Gp ?_
 refine zc (λh=>hF (by omega) hS) (λh3=>?_)
 refine yn hv ?_
 refine Gp ?_
 refine zc (λh=>hF (by omega) hS) (λh4=>?_)
 refine yn hv ?_
 have hM:mayImg lsn ts=ts.all mayRw:=by unfold mayImg;rw[decide_eq_true (show 0≤lsn∧lsn≤1099511627776∧1≤ts.length∧ts.length≤8 by omega)];rfl
 refine⟨λus w=>∃i:Nat,us=[.int .i64 i]∧i≤ts.length∧(∀j (h:j<ts.length),j<i→mayRw ts[j]=true)∧SL W (.mem H::F) w,λus _=>match us with|[.int _ i]=>(ts.length-i).toNat|_=>0,⟨0,rfl,by omega,λj h hj=>by omega,hS⟩,?_⟩
 clear hS
 rintro v25 w ⟨i,hus,hi,hall,hS⟩
 cases hus
 refine Gp ?_
 refine zc (λh=>?_) (λh=>?_)
 ·have hil:i<ts.length:=by omega
  refine YE hS Xh hv hil λu hu=>?_
  refine Cg (Z4 H u ts[i] hu (hc _ (List.getElem_mem hil))) λw hS=>?_
  refine zA (λhb=>?_) (λhb=>?_)
  ·refine⟨_,⟨?_,rfl⟩,hS⟩
   rw[hM,show ts.all mayRw=false from List.all_eq_false.2 ⟨_,List.getElem_mem hil,by rw[hb];decide⟩]
  ·refine Gp ?_
   refine⟨⟨i+1,rfl,by omega,λj hj hji=>?_,hS⟩,by dsimp only;omega⟩
   by_cases e:j=i
   ·subst e;exact hb
   ·exact hall j hj (by omega)
 ·refine⟨_,⟨?_,rfl⟩,hS⟩
  rw[hM,show ts.all mayRw=true from List.all_eq_true.2 λC hC=>by
   obtain⟨j,hj,rfl⟩:=List.getElem_of_mem hC
   exact hall j hj (by omega)]
def fIA(lsn:Int)(ts:List (List Row))(i:Nat):List PFd:=[iF lsn,iF ts.length]++((ts.take i).map fdsTab).flatten
def fIB(lsn:Int)(ts:List (List Row))(i:Nat)(C:List Row)(j:Nat):List PFd:=fIA lsn ts i++(iF C.length::((C.take j).map fdsRow).flatten)
theorem fIA_s{lsn:Int}{ts:List (List Row)}{i:Nat}(h:i<ts.length):fIA lsn ts (i+1)=fIB lsn ts i ts[i] ts[i].length:=by
 unfold fIA fIB fIA fdsTab
 rw[List.take_succ_eq_append_getElem h,List.map_append,List.flatten_append,List.map_singleton,List.flatten_singleton,List.take_length,List.append_assoc]
theorem fIB_s{lsn:Int}{ts:List (List Row)}{i:Nat}{C:List Row}{j:Nat}(h:j<C.length):fIB lsn ts i C (j+1)=fIB lsn ts i C j++[iF C[j].key]++[tF C[j].val]:=by
 unfold fIB
 rw[List.take_succ_eq_append_getElem h,List.map_append,List.flatten_append,List.map_singleton,List.flatten_singleton]
 simp[fdsRow]
theorem fIA_e(lsn:Int)(ts:List (List Row)):fIA lsn ts ts.length=fdsImg lsn ts:=by unfold fIA fdsImg;rw[List.take_length]
theorem fIA_len{lsn:Int}{ts:List (List Row)}(h:∀C∈ts,C.length≤1000)(i:Nat):(fIA lsn ts i).length≤2+ts.length*2001:=by
 have k:=flat_le (f:=fdsTab) (k:=2001) (ts.take i) λC hC=>by rw[fdsTab_len];have:=h C (List.mem_of_mem_take hC);omega
 have:(ts.take i).length*2001≤ts.length*2001:=Nat.mul_le_mul_right _ (by rw[List.length_take];omega)
 unfold fIA
 rw[List.length_append]
 simp only[List.length_cons,List.length_nil]
 omega
theorem fIB_len{lsn:Int}{ts:List (List Row)}(h:∀C∈ts,C.length≤1000)(i:Nat){C:List Row}(hC:C.length≤1000)(j:Nat):(fIB lsn ts i C j).length≤2003+ts.length*2001:=by
 have h1:=fIA_len (lsn:=lsn) h i
 unfold fIB
 rw[List.length_append,List.length_cons,flat_const (f:=fdsRow) (k:=2) (λ_=>rfl),List.length_take]
 omega
def EncImQ(H:Heap)(lsn:Int)(ts:List (List Row))(u:Value)(post:List Chunk):Prop:=match encImg lsn ts with
 | .error e=>u= .tuple #[.slice none 0 0,.int .i64 e]∧post=[.mem H]
 | .ok b=>∃v,u= .tuple #[v,.int .i64 0]∧post=[.ob (OwnSl v 5 1 b.length (b.map u8c)),.mem H]
theorem tabP_eq(r:PRd):tabP r=manyP rowP (smallP 1000 r).1.toNat (smallP 1000 r).2:=rfl
theorem qI(rp:Nat)(r:PRd):SP 282 [.pointer (some ⟨rp,0,none⟩)] [.ob (PRdO rp r)] (λv post=>(tabP r).1.length≤1000∧post=[RwO v (tabP r).1,.ob (PRdO rp (tabP r).2)]):=by
 intro W F w hS;apply vc282;unfold Vc282;(try simp only[app]at hS)
 rw[tabP_eq]
 have hn1:=smallP_in (m:=1000) (by decide) r
 (refine Cc (zW rp r 1000) ?_;clear hS)
 rintro v1 post ⟨rfl,rfl⟩ w hS
 (try simp only[app]at hS)
 generalize (smallP 1000 r).1=n1 at *
 generalize (smallP 1000 r).2=r2 at *
 have hS:SL W (RwO (.slice none 0 0) []::_) _:=OwnSl.nil hS
 refine⟨λus w=>∃(k:Nat) (rs:List Row) (r:PRd) (rv:Value),us=[rv,.int .i64 k]∧ManyAt rowP n1.toNat r2 rs k r∧SL W (RwO rv rs::.ob (PRdO rp r)::F) w,
  λus _=>match us with|[_,.int _ i]=>i.toNat|_=>0,⟨n1.toNat,[],r2,.slice none 0 0,by rw[show ((n1.toNat:Nat):Int)=n1 by omega],ManyAt.start _ _ _,SL.into hS Xi⟩,?_⟩
 clear hS
 rintro v3 v4 w ⟨k,rs,r,rv,hus,hM,hS⟩
 cases hus
 have hle:=hM.le
 refine Gp ?_
 refine zc (λh=>?_) (λh=>?_)
 ·obtain⟨k,rfl⟩:∃j,k=j+1:=⟨k-1,by omega⟩
  refine Cg (qG rp r) λw hS=>?_
  refine zA (λhb=>?_) (λhb=>?_)
  ·have hM:=hM.step hb
   (refine Cc (yB rp r) ?_;clear hS)
   rintro v1 post ⟨rfl,rfl⟩ w hS
   (try simp only[app]at hS)
   refine Cg (yU rp _) λw hS=>?_;refine Gm λb w hS=>?_
   refine yr (n:=rs.length) (xs:=rs) (y:=(rowP r).1) (enc:=encRow) hS Xr Xh encRow_len (λx=>encRow_one1 x) rfl (by omega) (by omega) λu w hS=>?_
   refine Gp ?_
   refine⟨⟨k,_,_,u,by rw[show ((k+1:Nat):Int)-1=(k:Int) by omega],hM,?_⟩,by dsimp only;omega⟩
   have hS:=hS.snocL (x:=(rowP r).1)
   have hS:SL W (RwO u (rs++[(rowP r).1])::_::.ob (PRdO rp (rowP r).2)::F) _:=hS
   exact SL.into hS Xi
  ·rw[hM.stop (.inr hb)]
   exact⟨_,⟨by show rs.length≤1000;omega,rfl⟩,SL.into hS Xi⟩
 ·rw[hM.stop (.inl (by omega))]
  exact⟨_,⟨by show rs.length≤1000;omega,rfl⟩,SL.into hS Xi⟩
theorem Rd2.nil(H:Heap):Rd2 H [] []:=⟨rfl,λi v C h1 h2=>by simp at h1⟩
theorem Rd2.snoc{H:Heap}{vs:List Value}{ts:List (List Row)}(h:Rd2 H vs ts){v:Value}{C:List Row}(hv:RdSl H 2 v C.length (C.map encRow).flatten):Rd2 H (vs++[v]) (ts++[C]):=by
 have hl:=h.1
 refine⟨by rw[List.length_append,List.length_append,hl];rfl,λi u D h1 h2=>?_⟩
 rcases Nat.lt_or_ge i vs.length with hi|hi
 ·rw[List.getElem?_append_left hi]at h1
  rw[List.getElem?_append_left (by omega)]at h2
  exact h.2 i u D h1 h2
 ·rw[List.getElem?_append_right hi]at h1
  rw[List.getElem?_append_right (by omega)]at h2
  obtain⟨e,rfl⟩:i-vs.length=0∧v=u:=by
   cases hk:i-vs.length with
   | zero=>rw[hk]at h1;exact⟨rfl,by simpa using h1⟩
   | succ n=>rw[hk]at h1;simp at h1
  rw[show i-ts.length=0 by omega]at h2
  obtain rfl:C=D:=by simpa using h2
  exact hv
def DecImQ(X:Chunk)(H:Heap)(b:List UInt8)(u:Value)(post:List Chunk):Prop:=match decImg b with
 | none=>u= .tuple #[.int .i64 0,.slice none 0 0,.int .i64 3]∧∃H',H.le H'∧post=[X,.mem H']
 | some x=>∃v H',H.le H'∧RdTs H' v x.2∧u= .tuple #[.int .i64 x.1,v,.int .i64 0]∧post=[X,.mem H']
theorem imgI_no{l:List PFd}(h:¬((imgP ⟨l,false⟩).2.bad=false∧(imgP ⟨l,false⟩).2.l=[]∧mayImg (imgP ⟨l,false⟩).1.1 (imgP ⟨l,false⟩).1.2=true)):imgI l=none:=by
 unfold imgI;simp only;rw[if_neg h]
theorem imgI_is{l:List PFd}(h:(imgP ⟨l,false⟩).2.bad=false∧(imgP ⟨l,false⟩).2.l=[]∧mayImg (imgP ⟨l,false⟩).1.1 (imgP ⟨l,false⟩).1.2=true):imgI l=some (imgP ⟨l,false⟩).1:=by
 unfold imgI;simp only;rw[if_pos h]
structure ImRd(l:List PFd)(lsn:Int)(r1:PRd):Prop where
 lsn:(imgP ⟨l,false⟩).1.1=lsn
 ts:(imgP ⟨l,false⟩).1.2=(manyA tabP (smallP 8 r1).1.toNat (smallP 8 r1).2).1
 rd:(imgP ⟨l,false⟩).2=(manyA tabP (smallP 8 r1).1.toNat (smallP 8 r1).2).2
theorem ImRd.is(l:List PFd):ImRd l (intP ⟨l,false⟩).1 (intP ⟨l,false⟩).2:=⟨rfl,rfl,rfl⟩
theorem Y0(X:Chunk)(H:Heap)(v:Value)(bs:List UInt8)(hv:Rdb X v bs)(hN:bs.length≤140737488355328):SP 219 [v] [X,.mem H] (DecImQ X H bs):=by
 intro W F w hS;apply vc219;unfold Vc219;(try simp only[app]at hS)
 have hno:decImg bs=none→∀{w:World} {H':Heap},H.le H'→SL W (X::.mem H'::F) w→∃post,DecImQ X H bs (.tuple #[.int .i64 0,.slice none 0 0,.int .i64 3]) post∧SL W (app post F) w:=λh w H' hh hS=>⟨[X,.mem H'],by unfold DecImQ;rw[h];exact⟨rfl,H',hh,rfl⟩,hS⟩
 (refine Cc (Yp X v bs hv hN) ?_;clear hS)
 rintro r post hq w hS
 unfold TakeQ at hq
 cases ht:takeR bs with
 | error e=>
  rw[ht]at hq
  obtain⟨rfl,rfl⟩:=hq
  have hd:decImg bs=none:=by unfold decImg;rw[ht]
  have he:e≠0:=by have:=takeR_err ht;omega
  (try simp only[app]at hS);refine Gp ?_
  exact zc (λ_=>hno hd (Heap.le_refl H) (SL.into hS Xi)) (λh=>absurd he h)
 | ok pn=>
  obtain⟨p,n⟩:=pn
  rw[ht]at hq
  obtain⟨pv,rfl,rfl⟩:=hq
  (try simp only[app]at hS);refine Gp ?_
  refine zc (λh=>absurd rfl h) (λ_=>?_)
  refine zH hS Xh hv ?_
  refine Gp ?_
  refine zc (λh=>?_) (λh=>?_)
  ·have hd:decImg bs=none:=by unfold decImg;rw[ht];simp only;rw[if_neg (by omega)]
   exact hno hd (Heap.le_refl H) (SL.into hS Xi)
  have hnb:n=bs.length:=by omega
  (refine Cc (yS _ pv p Rdb.own) ?_;clear hS)
  rintro r post hq w hS
  unfold DecQ at hq
  cases hd:decF p with
  | error e=>
   rw[hd]at hq
   obtain⟨rfl,rfl⟩:=hq
   have he:=decF_er hd
   have hd:decImg bs=none:=by unfold decImg;rw[ht];simp only;rw[if_pos hnb,hd]
   (try simp only[app]at hS);refine Gp ?_
   exact zc (λ_=>hno hd (Heap.le_refl H) (SL.into hS Xi)) (λh=>absurd he h)
  | ok l=>
   rw[hd]at hq
   obtain⟨lv,rfl,rfl⟩:=hq
   have hI:=decImg_eq ht hnb hd
   (try simp only[app]at hS);refine Gp ?_
   refine zc (λh=>absurd rfl h) (λ_=>?_)
   (refine Cc (ZQ lv l) ?_;clear hS)
   rintro _ post ⟨rp,rfl,rfl⟩ w hS
   (try simp only[app]at hS)
   (refine Cc (yB rp ⟨l,false⟩) ?_;clear hS)
   rintro v1 post ⟨rfl,rfl⟩ w hS
   (try simp only[app]at hS)
   have hR:=ImRd.is l
   generalize (intP ⟨l,false⟩).1=lsn at *
   generalize (intP ⟨l,false⟩).2=r1 at *
   have hn1:=smallP_in (m:=8) (by decide) r1
   (refine Cc (zW rp r1 8) ?_;clear hS)
   rintro v1 post ⟨rfl,rfl⟩ w hS
   (try simp only[app]at hS)
   have hts:=hR.ts
   have hrd:=hR.rd
   generalize (smallP 8 r1).1=n1 at *
   generalize (smallP 8 r1).2=r2 at *
   have hS:SL W (.ob (OwnSl (.slice none 0 0) 53 1 ([]:List (List Row)).length [])::_) _:=OwnSl.nil hS
   refine⟨λus w=>∃(k:Nat) (ts:List (List Row)) (r:PRd) (tv:Value) (vs:List Value) (H':Heap),us=[tv,.int .i64 k]∧AnyAt tabP n1.toNat r2 ts k r∧(∀C∈ts,C.length≤1000)∧H.le H'∧Rd2 H' vs ts∧SL W (.ob (OwnSl tv 53 1 ts.length vs)::.ob (PRdO rp r)::X::.mem H'::F) w,
    λus _=>match us with|[_,.int _ i]=>i.toNat|_=>0,⟨n1.toNat,[],r2,.slice none 0 0,[],H,by rw[show ((n1.toNat:Nat):Int)=n1 by omega],AnyAt.start _ _ _,by simp,Heap.le_refl H,Rd2.nil H,SL.into hS Xi⟩,?_⟩
   clear hS
   rintro tv v12 w ⟨k,ts,r,_,vs,H',hus,hM,hCl,hh,hR2,hS⟩
   cases hus
   have hle:=hM.le
   refine Gp ?_
   refine zc (λh=>?_) (λh=>?_)
   ·obtain⟨k,rfl⟩:∃j,k=j+1:=⟨k-1,by omega⟩
    have hM:=hM.step
    (refine Cc (qI rp r) ?_;clear hS)
    rintro rv post ⟨hl,rfl⟩ w hS
    (try simp only[app]at hS)
    obtain⟨H2,h12,hO,hS⟩:=zG (H:=H') (v:=rv) hS Xp
    have hc1:=hO.one
    refine zB hS (fill_v hc1) λb w hS=>?_
    refine zz (n:=ts.length) (m:=1) hS Xr (src_pt0 (cs:=[rv]) hS Xh rfl) rfl rfl (by simpa using hc1) (by omega) (by omega) ?_
    clear hS;intro u w hS
    refine Gp ?_
    refine⟨⟨k,_,_,u,vs++[rv],H2,by rw[show ((k+1:Nat):Int)-1=(k:Int) by omega],hM,λC hC=>?_,Heap.le_trans hh h12,(hR2.mono h12).snoc hO,?_⟩,by dsimp only;omega⟩
    ·rcases List.mem_append.1 hC with hC|hC
     ·exact hCl C hC
     ·rw[List.mem_singleton.1 hC];exact hl
    ·have hS:=hS.snocL (x:=(tabP r).1)
     exact SL.into hS Xi
   ·obtain rfl:k=0:=by omega
    rw[hM.stop]at hts hrd
    have hts:(imgP ⟨l,false⟩).1.2=ts:=hts
    have hrd:(imgP ⟨l,false⟩).2=r:=hrd
    have hlsn:=hR.lsn
    obtain⟨H2,h12,hO,hS⟩:=zG (H:=H') (v:=tv) hS Xp
    have h02:=Heap.le_trans hh h12
    have hT:RdTs H2 tv ts:=⟨vs,hO,hR2.mono h12⟩
    refine Cg (ZO rp r) λw hS=>?_
    refine zA (λhb=>?_) (λhb=>?_)
    ·have hb:=of_decide_eq_false hb
     exact hno (by rw[hI];exact imgI_no λh=>hb ⟨by rw[← hrd];exact h.1,by rw[← hrd];exact h.2.1⟩) h02 (SL.into hS Xi)
    ·have hb:=of_decide_eq_true hb
     refine Cg (Yz H2 tv lsn ts hT (by omega) (λC hC=>by have:=hCl C hC;omega)) λw hS=>?_
     refine zA (λhm=>?_) (λhm=>?_)
     ·exact hno (by rw[hI];exact imgI_no λh=>by rw[hlsn,hts,hm]at h;cases h.2.2) h02 (SL.into hS Xi)
     ·skip
      have he:=imgI_is (l:=l) ⟨by rw[hrd];exact hb.1,by rw[hrd];exact hb.2,by rw[hlsn,hts];exact hm⟩
      refine⟨[X,.mem H2],?_,SL.into hS Xi⟩
      unfold DecImQ
      rw[hI,he]
      simp only
      rw[hlsn,hts]
      exact⟨tv,H2,h02,hT,rfl,rfl⟩
def SeqG:List PSeg→Prop
 | []=>True
 | [_]=>True
 | s::t::r=>t.first=s.next∧SeqG (t::r)
theorem SeqG.tail{s:PSeg}{L:List PSeg}(h:SeqG (s::L)):SeqG L:=by
 cases L with
 | nil=>trivial
 | cons t r=>exact h.2
theorem SeqG.drop{L:List PSeg}(h:SeqG L):∀i,SeqG (L.drop i)
 | 0=>h
 | i+1=>by
  cases L with
  | nil=>exact trivial
  | cons s L=>exact SeqG.drop h.tail i
theorem SeqG.snoc:∀{L:List PSeg} {x:PSeg},SeqG L→(L≠[]→x.first=headG L+1)→SeqG (L++[x])
 | [],x,_,_=>trivial
 | [s],x,_,h=>⟨by have:=h (by simp);simp only[headG,List.getLast?_singleton]at this;omega,trivial⟩
 | s::t::r,x,h,hx=>by
  refine⟨h.1,?_⟩
  refine SeqG.snoc (L:=t::r) h.2 λ_=>?_
  have:=hx (by simp)
  simp only[headG,List.getLast?_cons_cons]at this ⊢
  exact this
theorem SeqG.last:∀{A:List PSeg} {s t:PSeg},SeqG (A++[s])→t.first=s.first→SeqG (A++[t])
 | [],s,t,_,_=>trivial
 | [a],s,t,h,e=>⟨by rw[e];exact h.1,trivial⟩
 | a::b::r,s,t,h,e=>⟨h.1,SeqG.last (A:=b::r) h.2 e⟩
def TOk(g:PLog):Prop:=∀x,g.torn=some x→0≤x.file∧x.file≤100000∧(x.fresh=false→∃s,g.segs.getLast?=some s∧s.file=x.file∧x.had=s.size)∧(x.fresh=true→∀s,g.segs.getLast?=some s→s.file≠x.file)
structure GOk(g:PLog)(M:Nat):Prop where
 ok:g.Ok M
 seq:SeqG g.segs
 hd:headG g.segs≤1099511627776
 torn:TOk g
theorem GOk.mono{g:PLog}{N M:Nat}(h:GOk g N)(hm:N≤M):GOk g M:=⟨h.ok.mono hm,h.seq,h.hd,h.torn⟩
theorem mendG_torn(g:PLog)(d:DS):(mendG g d).1.1.torn=if (mendG g d).2=0 then none else g.torn:=by
 unfold mendG
 split
 ·rename_i h;simp[h]
 ·rename_i x h
  simp only
  split<;>simp[h]
theorem mendG_GOk{g:PLog}{d:DS}{M:Nat}(h:GOk g M):GOk (mendG g d).1.1 M:=by
 obtain⟨h1,h2,h3⟩:=mendG_same g d
 refine⟨mendG_gok h.ok,by rw[h1];exact h.seq,by rw[h1];exact h.hd,λx hx=>?_⟩
 rw[mendG_torn]at hx
 split at hx
 ·cases hx
 ·rw[h1];exact h.torn x hx
theorem headG_snoc(A:List PSeg)(s:PSeg):headG (A++[s])=s.next-1:=by
 unfold headG;rw[List.getLast?_concat]
theorem putG_GOk{g:PLog}{M:Nat}(h:GOk g M){p:List UInt8}{x:PWr}(hw:WrOk g p x)(ht:g.torn=none):GOk {g with segs:=putG g.segs x p} (M+(28+p.length)):=by
 obtain⟨k1,k2⟩:=putG_ok h.ok hw
 have hb:=h.ok
 have hhd:=hw.hd
 obtain⟨A,s,hA⟩:=moreG_last hw
 have hseq:SeqG (A++[s])∧s.next-1≤headG g.segs:=by
  rw[← hA]
  unfold moreG at hA ⊢
  split
  ·rename_i hf
   rw[if_pos hf]at hA
   have hs:=List.append_inj' hA rfl
   have e:s=⟨x.file,headG g.segs+1,0,[]⟩:=by simpa using hs.2.symm
   refine⟨h.seq.snoc λ_=>rfl,?_⟩
   rw[e];simp[PSeg.next]
  ·rename_i hf
   rw[if_neg hf]at hA
   refine⟨h.seq,?_⟩
   rw[hA,headG_snoc];exact Int.le_refl _
 rw[putG_eq _ _ _ hA]at k1 k2 ⊢
 refine⟨⟨k1,hb.b0,hb.b1,hb.s0,hb.s1,by show (A++[addE s x.b.length p]).length≤_;omega⟩,hseq.1.last rfl,?_,λy hy=>?_⟩
 ·show headG (A++[addE s x.b.length p])≤_
  rw[headG_snoc]
  have e:(addE s x.b.length p).next=s.next+1:=by simp[PSeg.next,addE];omega
  rw[e];omega
 ·have:g.torn=some y:=hy
  rw[ht]at this;cases this
theorem appendG_GOk{g:PLog}{d:DS}{M:Nat}(h:GOk g M)(p:List UInt8):GOk (appendG g d p).1.1 (M+(28+p.length)):=by
 unfold appendG
 split
 ·exact h.mono (by omega)
 ·rename_i x hx
  have hw:=planG_wr h.ok hx
  have hm:=mendG_GOk (d:=d) h
  obtain⟨m1,_,_⟩:=mendG_same g d
  have mt:=mendG_torn g d
  simp only
  split
  ·exact hm.mono (by omega)
  ·rename_i h0
   have h0:(mendG g d).2=0:=by simpa using h0
   rw[if_pos h0]at mt
   split
   ·exact hm.mono (by omega)
   ·split
    ·exact hm.mono (by omega)
    ·refine putG_GOk hm ⟨hw.pl,by rw[m1];exact hw.hd,by rw[m1];exact hw.old,hw.f0,hw.bl,hw.pos⟩ mt
theorem loadG_seq{L:List PSeg}{R:List PF}{f:Int}{last:Bool}(h:SeqG L)(hh:headG L≤1099511627776):SeqG (loadG L R f last).2∧headG (loadG L R f last).2≤1099511627776:=by
 unfold loadG
 simp only
 split
 ·exact⟨h,hh⟩
 ·split
  ·exact⟨h,hh⟩
  ·rename_i k l n hr hc
   refine⟨h.snoc λhL=>?_,?_⟩
   ·show k=headG L+1
    have:0<L.length:=List.length_pos_iff.2 hL
    rcases Int.lt_trichotomy k (headG L+1) with h1|h1|h1
    ·exact absurd (.inr (.inl ⟨this,by omega⟩)) hc
    ·exact h1
    ·exact absurd (.inr (.inl ⟨this,by omega⟩)) hc
   ·show headG (L++[_])≤_
    rw[headG_snoc]
    simp only[PSeg.next]
    rcases Int.lt_or_le 1099511627776 (k+l.length-1) with h1|h1
    ·exact absurd (.inr (.inr h1)) hc
    ·exact h1
theorem loadsG_seq{R:List PF}:∀(ids:List Int) (prev:Option Int) (L:List PSeg) (wh:Bool),SeqG L→headG L≤1099511627776→∀{L' wh'},loadsG R ids prev L wh=some (L',wh')→SeqG L'∧headG L'≤1099511627776
 | [],prev,L,wh,h,hh,L',wh',e=>by cases e;exact⟨h,hh⟩
 | f::r,prev,L,wh,h,hh,L',wh',e=>by
  rw[loadsG_cons]at e
  obtain⟨k1,k2⟩:=loadG_seq (R:=R) (f:=f) (last:=r.isEmpty) h hh
  split at e
  ·cases e
  ·split at e
   ·cases e
   ·exact loadsG_seq r _ _ _ k1 k2 e
def findR:List PSeg→Int→Option (List UInt8)
 | [],_=>none
 | s::r,n=>if n-s.first<s.l.length then s.l[(n-s.first).toNat]? else findR r n
theorem findR_eq:∀(L:List PSeg) (n:Int),SeqG L→(∀s,L.head?=some s→s.first≤n)→findR L n=readG L n
 | [],n,_,_=>rfl
 | [s],n,_,h=>by
  have h0:=h s rfl
  have hnx:s.next=s.first+s.l.length:=rfl
  by_cases h1:n-s.first<s.l.length
  ·rw[findR,readG,if_pos h1,if_pos (c:=s.first≤n∧n<s.next) ⟨h0,by omega⟩]
  ·rw[findR,readG,if_neg h1,if_neg (c:=s.first≤n∧n<s.next) (by omega)];rfl
 | s::t::r,n,hs,h=>by
  have h0:=h s rfl
  have hnx:s.next=s.first+s.l.length:=rfl
  have h1:=hs.1
  by_cases h2:n-s.first<s.l.length
  ·rw[findR,readG,if_pos h2,if_pos (c:=s.first≤n∧n<s.next) ⟨h0,by omega⟩]
  ·rw[findR,readG,if_neg h2,if_neg (c:=s.first≤n∧n<s.next) (by omega)]
   exact findR_eq (t::r) n hs.2 λx hx=>by cases hx;omega
theorem readG_low:∀(L:List PSeg) (n:Int),SeqG L→(∀s∈L,0≤(s.l.length:Int))→n<lowG L→readG L n=none
 | [],n,_,_,_=>rfl
 | [s],n,_,_,h=>by
  have h:n<s.first:=h
  rw[readG,if_neg (by omega)];rfl
 | s::t::r,n,hs,hp,h=>by
  have h:n<s.first:=h
  have h1:=hs.1
  simp only[PSeg.next]at h1
  rw[readG,if_neg (by omega)]
  exact readG_low (t::r) n hs.2 (λx hx=>by omega) (by show n<t.first;omega)
theorem readG_high:∀(L:List PSeg) (n:Int),SeqG L→headG L<n→readG L n=none
 | [],n,_,_=>rfl
 | [s],n,_,h=>by
  have h:s.next-1<n:=h
  rw[readG,if_neg (by omega)];rfl
 | s::t::r,n,hs,h=>by
  have hh:headG (s::t::r)=headG (t::r):=by simp only[headG,List.getLast?_cons_cons]
  rw[hh]at h
  have hle:∀(L:List PSeg) (x:PSeg),SeqG (x::L)→x.next-1≤headG (x::L):=by
   intro L
   induction L with
   | nil=>intro x _;exact Int.le_refl _
   | cons y L ih=>
    intro x hx
    have:=ih y hx.2
    have h1:=hx.1
    have h2:headG (x::y::L)=headG (y::L):=by simp only[headG,List.getLast?_cons_cons]
    rw[h2]
    simp only[PSeg.next]at *
    omega
  have h1:=hle r t hs.2
  have h2:=hs.1
  have h3:s.next≤n:=by simp only[PSeg.next]at *;omega
  rw[readG,if_neg (by omega)]
  exact readG_high (t::r) n hs.2 h
theorem mendG_some(segs:List PSeg)(base size:Int)(x:PTorn)(d:DS):mendG ⟨segs,base,size,some x⟩ d =
  ((⟨segs,base,size,if (if x.fresh=true then d.remove x.file else d.cut x.file x.had).2=0 then none else some x⟩,(if x.fresh=true then d.remove x.file else d.cut x.file x.had).1),(if x.fresh=true then d.remove x.file else d.cut x.file x.had).2):=rfl
theorem qA(lp dp:Nat)(g:PLog)(d:DS)(N:Nat)(hok:d.Ok N)(hN:N≤140737488355328)(hops:d.ops≤100000):
  SP 287 [.pointer (some ⟨lp,0,none⟩)] [.ob (LogO lp dp g),.ob (DskO dp d)] (Gives (.int .i64 (mendG g d).2) [.ob (LogO lp dp (mendG g d).1.1),.ob (DskO dp (mendG g d).1.2)]):=by
 intro W F w hS;apply vc287;unfold Vc287;(try simp only[app]at hS)
 obtain⟨sv,tv,xs,hx,hS⟩:=LogO.iff.1 hS
 obtain⟨segs,base,size,torn⟩:=g
 simp only at hx hS
 cases torn with
 | none=>
  rw[show mendG ⟨segs,base,size,none⟩ d=((⟨segs,base,size,none⟩,d),0) from rfl]
  obtain⟨rfl,hS⟩:=TornO_none.1 (SL.into hS (t:=.ob (TornO tv none)::.pt lp (lcells sv tv dp base size) 148::RowX sv xs::.ob (zh XSegO xs)::.ob (DskO dp d)::F) Xi)
  refine Gp ?_
  refine zy ?_
  have hS:=(TornO_none (v:=.pointer none)).2 ⟨rfl,hS⟩
  exact⟨_,⟨rfl,rfl⟩,LogO.iff.2 ⟨sv,.pointer none,xs,hx,SL.into hS Xi⟩⟩
 | some x=>
  obtain⟨tb,rfl,hS⟩:=TornO_some.1 (SL.into hS (t:=.ob (TornO tv (some x))::.pt lp (lcells sv tv dp base size) 148::RowX sv xs::.ob (zh XSegO xs)::.ob (DskO dp d)::F) Xi)
  rw[mendG_some]
  refine Gp ?_
  refine zt ?_
  refine Gp ?_
  refine yZ (λhf=>?_) (λhf=>?_)
  ·simp only[if_pos hf]
   refine Gn λw hS=>?_
   refine Cg (Zg dp d N hok hops x.file) λw hS=>?_
   refine zc (λh=>?_) (λh=>?_)
   ·rw[if_pos h]
    refine Gn λw hS=>?_
    have hS:=(TornO_none (v:=.pointer none)).2 ⟨rfl,hS⟩
    exact⟨_,⟨rfl,rfl⟩,LogO.iff.2 ⟨sv,.pointer none,xs,hx,SL.into hS Xi⟩⟩
   ·rw[if_neg h]
    have hS:=(TornO_some (v:=.pointer (some ⟨tb,0,none⟩)) (x:=x)).2 ⟨tb,rfl,SL.into hS (t:=.pt tb [.int .i64 x.file,.int .i64 x.had,.bool x.fresh] 408::.pt lp (lcells sv (.pointer (some ⟨tb,0,none⟩)) dp base size) 148::RowX sv xs::.ob (zh XSegO xs)::.ob (DskO dp (d.remove x.file).1)::F) Xi⟩
    exact⟨_,⟨rfl,rfl⟩,LogO.iff.2 ⟨sv,_,xs,hx,SL.into hS Xi⟩⟩
  ·have hf:¬x.fresh=true:=by rw[hf];decide
   simp only[if_neg hf]
   refine Gn λw hS=>?_
   refine Cg (Z8 dp d N hok hN hops x.file x.had) λw hS=>?_
   refine zc (λh=>?_) (λh=>?_)
   ·rw[if_pos h]
    refine Gn λw hS=>?_
    have hS:=(TornO_none (v:=.pointer none)).2 ⟨rfl,hS⟩
    exact⟨_,⟨rfl,rfl⟩,LogO.iff.2 ⟨sv,.pointer none,xs,hx,SL.into hS Xi⟩⟩
   ·rw[if_neg h]
    have hS:=(TornO_some (v:=.pointer (some ⟨tb,0,none⟩)) (x:=x)).2 ⟨tb,rfl,SL.into hS (t:=.pt tb [.int .i64 x.file,.int .i64 x.had,.bool x.fresh] 408::.pt lp (lcells sv (.pointer (some ⟨tb,0,none⟩)) dp base size) 148::RowX sv xs::.ob (zh XSegO xs)::.ob (DskO dp (d.cut x.file x.had).1)::F) Xi⟩
    exact⟨_,⟨rfl,rfl⟩,LogO.iff.2 ⟨sv,_,xs,hx,SL.into hS Xi⟩⟩
def PlanQ(lp dp:Nat)(g:PLog)(d:DS)(X:Chunk)(p:List UInt8)(y:Except Int PWr)(r:Value)(post:List Chunk):Prop:=match y with
 | .error e=>(∃z,r= .tuple #[.agg #[.int .i64 0,.bool false,.slice none 0 0],.int .i64 z]∧z=e∧z≠0)∧post=[.ob (LogO lp dp g),.ob (DskO dp d),X]
 | .ok x=>∃a c,r= .tuple #[.agg #[.int .i64 x.file,.bool x.fresh,.slice a x.b.length c],.int .i64 0]∧post=[.ob (OwnSl (.slice a x.b.length c) 5 1 x.b.length (x.b.map u8c)),.ob (LogO lp dp g),.ob (DskO dp d),X]
theorem PLog.Ok.xs{g:PLog}{N:Nat}(h:g.Ok N){xs:List XSeg}(hx:xs.map XSeg.pl=g.segs):(∀s∈xs.map XSeg.pl,SegOk s N)∧xs.length≤N∧0≤headG g.segs∧headG g.segs≤1099511627776+N:=by
 refine⟨by rw[hx];exact h.segs,?_,headG_ge h.segs⟩
 have:=h.ln
 rw[← hx,List.length_map]at this;exact this
theorem qF(X:Chunk)(lp dp:Nat)(g:PLog)(d:DS)(v:Value)(p:List UInt8)(hv:Rdb X v p)(hp:p.length≤140737488355328){M:Nat}(hg:g.Ok M)(hM:M≤1000000000000000):
  SP 286 [.pointer (some ⟨lp,0,none⟩),v] [.ob (LogO lp dp g),.ob (DskO dp d),X] (PlanQ lp dp g d X p (planG g d.off p)):=by
 intro W F w hS;apply vc286;unfold Vc286;(try simp only[app]at hS)
 obtain⟨sv,tv,xs,hx,hS⟩:=LogO.iff.1 hS
 obtain⟨hok,hl,hh0,hh1⟩:=hg.xs hx
 have hb0:=hg.b0
 have hb1:=hg.b1
 have hs1:=hg.s1
 have hs0:=hg.s0
 have hhead:headG (xs.map XSeg.pl)=headG g.segs:=by rw[hx]
 refine Gm λb w hS=>?_
 (refine Cc (Y3 X v p hv hp) ?_;clear hS)
 rintro r post hQ w hS
 unfold PutQ at hQ
 by_cases hbig:1048576<p.length
 ·rw[if_pos hbig]at hQ
  obtain⟨rfl,rfl⟩:=hQ
  have hpl:planG g d.off p= .error 1:=by unfold planG;rw[if_pos hbig]
  rw[hpl]
  (try simp only[app]at hS);refine Gp ?_
  refine zc (λ_=>?_) (λh=>absurd (by decide) h)
  refine Gn λw hS=>?_
  exact⟨_,⟨⟨1,rfl,rfl,by decide⟩,rfl⟩,SL.into (LogO.iff.2 ⟨sv,tv,xs,hx,SL.into hS (t:=.pt lp (lcells sv tv dp g.base g.size) 148::RowX sv xs::.ob (zh XSegO xs)::.ob (TornO tv g.torn)::.ob (DskO dp d)::X::F) Xi⟩) Xi⟩
 ·rw[if_neg hbig]at hQ
  obtain⟨u,rfl,rfl⟩:=hQ
  (try simp only[app]at hS)
  have hu:=hS.ownOne .hd
  obtain⟨au,cu,eu,_⟩:=OwnSl.at hS .hd
  subst eu
  refine Gp ?_
  refine zc (λh=>absurd rfl h) (λ_=>?_)
  refine Gp ?_
  refine Cg (y8 dp d) λw hS=>?_
  have hfin:∀{w:World} {l:List Chunk},SL W (.pt lp (lcells sv tv dp g.base g.size) 148::RowX sv xs::.ob (zh XSegO xs)::.ob (TornO tv g.torn)::l) w→SL W (.ob (LogO lp dp g)::l) w:=λh=>LogO.iff.2 ⟨sv,tv,xs,hx,h⟩
  refine yZ (λho=>?_) (λho=>?_)
  ·have hpl:planG g d.off p= .error 8:=by unfold planG;rw[if_neg hbig,if_pos ho]
   rw[hpl]
   refine Gn λw hS=>?_
   exact⟨_,⟨⟨8,rfl,rfl,by decide⟩,rfl⟩,SL.into (hfin (SL.into hS (t:=.pt lp (lcells sv tv dp g.base g.size) 148::RowX sv xs::.ob (zh XSegO xs)::.ob (TornO tv g.torn)::.ob (DskO dp d)::X::F) Xi)) Xi⟩
  ·refine Gp ?_
   refine Cg (yi lp (lcells sv tv dp g.base g.size) 148 sv xs rfl hok hM (by omega)) λw hS=>?_
   rw[hhead]
   refine zc (λh1=>?_) (λh1=>?_)
   ·have hpl:planG g d.off p= .error 7:=by unfold planG;rw[if_neg hbig,if_neg (by rw[ho];decide),if_pos h1]
    rw[hpl]
    refine Gn λw hS=>?_
    exact⟨_,⟨⟨7,rfl,rfl,by decide⟩,rfl⟩,SL.into (hfin (SL.into hS (t:=.pt lp (lcells sv tv dp g.base g.size) 148::RowX sv xs::.ob (zh XSegO xs)::.ob (TornO tv g.torn)::.ob (DskO dp d)::X::F) Xi)) Xi⟩
   ·refine Gp ?_
    refine⟨λvs w=>∃f:Int,vs=[.int .i64 f]∧planG g d.off p=freshG g f p∧-1000000≤f∧f≤1000000∧SL W (.pt b [.int .i64 0,.bool false,.slice none 0 0] 318::.pt lp (lcells sv tv dp g.base g.size) 148::RowX sv xs::.ob (zh XSegO xs)::.ob (TornO tv g.torn)::.ob (DskO dp d)::.ob (OwnSl (.slice au (recB p).length cu) 5 1 (recB p).length ((recB p).map u8c))::X::F) w,?_,?_⟩
    ·refine Gp ?_
     refine zV hS Xh ?_
     refine Gp ?_
     refine zc (λh2=>?_) (λh2=>?_)
     ·refine Gp ?_
      have e:((xs.length:Nat):Int)-1=((xs.length-1:Nat):Int):=by omega
      rw[e]
      have hj:xs.length-1<xs.length:=by omega
      refine YH hS Xh hj ?_
      have hm:(xs[xs.length-1]'hj).pl∈xs.map XSeg.pl:=List.mem_map.2 ⟨_,List.getElem_mem hj,rfl⟩
      have hlast:g.segs.getLast?=some (xs[xs.length-1]'hj).pl:=by
       rw[← hx,List.getLast?_map,List.getLast?_eq_getElem?,List.getElem?_eq_getElem hj];rfl
      have hsk:=hok _ hm
      generalize xs[xs.length-1]'hj=x at *
      have hpl0:planG g d.off p=if x.pl.l.length=0∨(x.pl.size:Int)+(recB p).length≤g.size then .ok ⟨x.pl.file,false,recB p⟩ else freshG g (x.pl.file+1) p:=by
       unfold planG;rw[if_neg hbig,if_neg (by rw[ho];decide),if_neg (by omega),hlast]
      have hxl:x.pl.l.length=x.es.length:=by simp[XSeg.pl,byts_len]
      have hxz:x.pl.size=x.size:=rfl
      have hxf:x.pl.file=x.file:=rfl
      have k1:=hsk.f0
      have k2:=hsk.f1
      have k3:=hsk.sz
      rw[hxl,hxz,hxf]at hpl0
      rw[hxf]at k1 k2
      rw[hxz]at k3
      have hrl:=recB_len p
      unfold xcells XSeg.lv
      refine Gm λb w hS=>?_
      refine zc (λh3=>?_) (λh3=>?_)
      ·rw[if_pos (.inl (by omega))]at hpl0
       rw[hpl0]
       refine Gn λw hS=>?_
       exact⟨_,⟨au,cu,rfl,rfl⟩,SL.into (hfin (SL.into hS (t:=.pt lp (lcells sv tv dp g.base g.size) 148::RowX sv xs::.ob (zh XSegO xs)::.ob (TornO tv g.torn)::.ob (OwnSl (.slice au (recB p).length cu) 5 1 (recB p).length ((recB p).map u8c))::.ob (DskO dp d)::X::F) Xi)) Xi⟩
      ·refine Gp ?_
       refine zc (λh4=>?_) (λh4=>?_)
       ·rw[if_pos (.inr (by omega))]at hpl0
        rw[hpl0]
        refine Gn λw hS=>?_
        exact⟨_,⟨au,cu,rfl,rfl⟩,SL.into (hfin (SL.into hS (t:=.pt lp (lcells sv tv dp g.base g.size) 148::RowX sv xs::.ob (zh XSegO xs)::.ob (TornO tv g.torn)::.ob (OwnSl (.slice au (recB p).length cu) 5 1 (recB p).length ((recB p).map u8c))::.ob (DskO dp d)::X::F) Xi)) Xi⟩
       ·rw[if_neg (by omega)]at hpl0
        refine Gp ?_
        exact⟨x.file+1,rfl,hpl0,by omega,by omega,SL.into hS Xi⟩
     ·have hpl0:planG g d.off p=freshG g g.base p:=by
       have hnil:g.segs=[]:=by
        rw[← hx]
        have:xs=[]:=List.eq_nil_of_length_eq_zero (by omega)
        rw[this];rfl
       unfold planG;rw[if_neg hbig,if_neg (by rw[ho];decide),if_neg (by omega),hnil];rfl
      exact⟨g.base,rfl,hpl0,by omega,by omega,SL.into hS Xi⟩
    ·clear hS
     rintro v8 w ⟨f,hvs,hpl0,f0,f1,hS⟩
     cases hvs
     rw[hpl0]
     unfold freshG
     refine Gp ?_
     refine zc (λh2=>?_) (λh2=>?_)
     ·rw[if_pos h2]
      refine Gn λw hS=>?_
      exact⟨_,⟨⟨7,rfl,rfl,by decide⟩,rfl⟩,SL.into (hfin (SL.into hS (t:=.pt lp (lcells sv tv dp g.base g.size) 148::RowX sv xs::.ob (zh XSegO xs)::.ob (TornO tv g.torn)::.ob (DskO dp d)::X::F) Xi)) Xi⟩
     ·rw[if_neg h2]
      refine Gp ?_
      refine Cg (yi lp (lcells sv tv dp g.base g.size) 148 sv xs rfl hok hM (by omega)) λw hS=>?_
      rw[hhead]
      (refine Cc (YL (headG g.segs+1)) ?_;clear hS)
      rintro r post hQ w hS
      unfold HeadQ at hQ
      rw[if_neg (by omega)]at hQ
      obtain⟨y,rfl,rfl⟩:=hQ
      (try simp only[app]at hS)
      have hy:=hS.ownOne .hd
      obtain⟨ay,cy,ey,_⟩:=OwnSl.at hS .hd
      subst ey
      refine Gm λb w hS=>?_
      refine yO (F:=_) (Zu _ 2 _ [_,_] [recB (hdB (headG g.segs+1).toNat),recB p] [.ob (OwnSl (.slice ay (recB (hdB (headG g.segs+1).toNat)).length cy) 5 1 (recB (hdB (headG g.segs+1).toNat)).length ((recB (hdB (headG g.segs+1).toNat)).map u8c)),.ob (OwnSl (.slice au (recB p).length cu) 5 1 (recB p).length ((recB p).map u8c))] rfl rfl ?_ ?_ (by omega)) hS Xp ?_
      ·intro i hi
       match i,hi with
       | 0,_=>exact⟨_,.hd,Rdb.own⟩
       | 1,_=>exact⟨_,.tl .hd,Rdb.own⟩
      ·have:=recB_len p
       have:=recB_len (hdB (headG g.segs+1).toNat)
       have:=hdB_len (headG g.segs+1).toNat
       simp;omega
      ·clear hS
       rintro c post rfl w hS;(try simp only[app]at hS)
       have e2:[recB (hdB (headG g.segs+1).toNat),recB p].flatten=recB (hdB (headG g.segs+1).toNat)++recB p:=by simp
       rw[e2]at hS
       have hc:=hS.ownOne .hd
       obtain⟨ac,cc,ec,_⟩:=OwnSl.at hS .hd
       subst ec
       refine Gn λw hS=>?_
       have e3:(recB (hdB (headG g.segs+1).toNat)).length+(recB p).length=(recB (hdB (headG g.segs+1).toNat)++recB p).length:=by rw[List.length_append]
       rw[e3]
       exact⟨_,⟨ac,cc,rfl,rfl⟩,SL.into (hfin (SL.into hS (t:=.pt lp (lcells sv tv dp g.base g.size) 148::RowX sv xs::.ob (zh XSegO xs)::.ob (TornO tv g.torn)::.ob (OwnSl (.slice ac (recB (hdB (headG g.segs+1).toNat)++recB p).length cc) 5 1 (recB (hdB (headG g.segs+1).toNat)++recB p).length ((recB (hdB (headG g.segs+1).toNat)++recB p).map u8c))::.ob (DskO dp d)::X::F) Xi)) Xi⟩
def ReadyQ(lp dp:Nat)(g:PLog)(d:DS)(X:Chunk)(y:Except Int PWr)(r:Value)(post:List Chunk):Prop:=match y with
 | .error e=>e≠0∧r= .tuple #[.agg #[.int .i64 0,.bool false,.slice none 0 0],.int .i64 e]∧post=[.ob (LogO lp dp g),.ob (DskO dp d),X]
 | .ok x=>∃a c,r= .tuple #[.agg #[.int .i64 x.file,.bool x.fresh,.slice a x.b.length c],.int .i64 (mendG g d).2]∧post=[.ob (OwnSl (.slice a x.b.length c) 5 1 x.b.length (x.b.map u8c)),.ob (LogO lp dp (mendG g d).1.1),.ob (DskO dp (mendG g d).1.2),X]
theorem Y6(X:Chunk)(lp dp:Nat)(g:PLog)(d:DS)(v:Value)(p:List UInt8)(hv:Rdb X v p)(hp:p.length≤140737488355328){M N:Nat}(hg:g.Ok M)(hM:M≤1000000000000000)(hok:d.Ok N)(hN:N≤140737488355328)(hops:d.ops≤100000):
  SP 229 [.pointer (some ⟨lp,0,none⟩),v] [.ob (LogO lp dp g),.ob (DskO dp d),X] (ReadyQ lp dp g d X (planG g d.off p)):=by
 intro W F w hS;apply vc229;unfold Vc229;(try simp only[app]at hS)
 refine Gm λb w hS=>?_
 (refine Cc (qF X lp dp g d v p hv hp hg hM) ?_;clear hS)
 rintro r post hQ w hS
 cases hpl:planG g d.off p with
 | error e=>
  rw[hpl]at hQ
  obtain⟨⟨z,rfl,rfl,hz⟩,rfl⟩:=hQ
  refine Gm λb w hS=>?_
  refine zc (λh=>absurd h hz) (λ_=>?_)
  refine Gn λw hS=>?_
  exact⟨_,⟨hz,rfl,rfl⟩,SL.into hS Xi⟩
 | ok x=>
  rw[hpl]at hQ
  obtain⟨a,c,rfl,rfl⟩:=hQ
  refine Gm λb w hS=>?_
  refine zc (λ_=>?_) (λh=>absurd rfl h)
  refine Cg (qA lp dp g d N hok hN hops) λw hS=>?_
  exact⟨_,⟨a,c,rfl,rfl⟩,SL.into hS Xi⟩
theorem RowX.at{W w:World}{l:List Chunk}{v:Value}{t:TypeId}{xs:List XSeg}{j:Nat}(h:SL W (.ob (OwnSo v t 4 xs.length (xs.map xcells).flatten)::l) w)(hj:j<xs.length):
  ∃b o cap A B,v= .slice (some ⟨b,o,none⟩) xs.length cap∧A.length=o+j*4∧SL W (.pt b (A++(xcells xs[j]++B)) t::l) w ∧
   ∀y w' l',SL W (.pt b (A++(xcells y++B)) t::l') w'→SL W (.ob (OwnSo v t 4 (xs.set j y).length ((xs.set j y).map xcells).flatten)::l') w':=by
 obtain⟨b,pre,cap,rest,rfl,hc,hl,hr,hS⟩:=OwnSo.block h (by omega)
 have e:(xs.map xcells).flatten=((xs.take j).map xcells).flatten++(xcells xs[j]++((xs.drop (j+1)).map xcells).flatten):=by
  have hsp:xs=xs.take j++xs[j]::xs.drop (j+1):=by rw[← List.drop_eq_getElem_cons hj,List.take_append_drop]
  have e:=congrArg (λl=>(List.map xcells l).flatten) hsp
  simp only[List.map_append,List.map_cons,List.flatten_append,List.flatten_cons]at e
  exact e
 have el:((xs.take j).map xcells).flatten.length=j*4:=by rw[flatX_len,List.length_take];omega
 refine⟨b,pre.length,cap,pre++((xs.take j).map xcells).flatten,((xs.drop (j+1)).map xcells).flatten++rest,rfl,by rw[List.length_append,el],?_,λy w' l' h'=>?_⟩
 ·rw[e]at hS
  simp only[List.append_assoc]at hS ⊢
  exact hS
 ·have e2:((xs.set j y).map xcells).flatten=((xs.take j).map xcells).flatten++(xcells y++((xs.drop (j+1)).map xcells).flatten):=by
   rw[List.set_eq_take_append_cons_drop,if_pos hj]
   simp only[List.map_append,List.map_cons,List.flatten_append,List.flatten_cons]
  have:=OwnSo.mk (b:=b) (t:=t) (sz:=4) (n:=xs.length) (cells:=((xs.set j y).map xcells).flatten) (pre:=pre) (rest:=rest) (cap:=cap) hc (by rw[flatX_len,List.length_set]) hr rfl (by rw[e2];simp only[List.append_assoc]at h' ⊢;exact h')
  show SL W (.ob (OwnSo _ t 4 (xs.set j y).length _)::l') w'
  rw[List.length_set]
  exact this
theorem pt_get{A B:List Value}{cs:List Value}{i:Nat}{u:Value}(h:cs[i]?=some u):(A++(cs++B))[A.length+i]?=some u:=by
 rw[List.getElem?_append_right (by omega),Nat.add_sub_cancel_left,List.getElem?_append_left (List.getElem?_eq_some_iff.1 h).1];exact h
theorem pt_set{A B:List Value}{cs:List Value}{i:Nat}{u:Value}(h:i<cs.length):(A++(cs++B)).set (A.length+i) u=A++(cs.set i u++B):=by
 rw[List.set_append_right _ _ (by omega),Nat.add_sub_cancel_left,List.set_append_left _ _ h]
theorem appendG_er{g:PLog}{d:DS}{p:List UInt8}{e:Int}(h:planG g d.off p= .error e):appendG g d p=((g,d),(0,e)):=by
 unfold appendG;rw[h]
theorem appendG_m{g:PLog}{d:DS}{p:List UInt8}{x:PWr}(h:planG g d.off p= .ok x)(hm:(mendG g d).2≠0):appendG g d p=((mendG g d).1,(0,(mendG g d).2)):=by
 unfold appendG;rw[h];simp only;rw[if_pos hm]
theorem appendG_a{g:PLog}{d:DS}{p:List UInt8}{x:PWr}(h:planG g d.off p= .ok x)(hm:(mendG g d).2=0)(ha:((mendG g d).1.2.append x.file x.b).2≠0):
  appendG g d p=(((mendG g d).1.1,((mendG g d).1.2.append x.file x.b).1),(0,((mendG g d).1.2.append x.file x.b).2)):=by
 unfold appendG;rw[h];simp only;rw[if_neg (by simp[hm]),if_pos ha]
theorem appendG_s{g:PLog}{d:DS}{p:List UInt8}{x:PWr}(h:planG g d.off p= .ok x)(hm:(mendG g d).2=0)(ha:((mendG g d).1.2.append x.file x.b).2=0)(hs:(((mendG g d).1.2.append x.file x.b).1.sync x.file).2≠0):
  appendG g d p=(((mendG g d).1.1,(((mendG g d).1.2.append x.file x.b).1.sync x.file).1),(0,(((mendG g d).1.2.append x.file x.b).1.sync x.file).2)):=by
 unfold appendG;rw[h];simp only;rw[if_neg (by simp[hm]),if_neg (by simp[ha]),if_pos hs]
theorem appendG_k{g:PLog}{d:DS}{p:List UInt8}{x:PWr}(h:planG g d.off p= .ok x)(hm:(mendG g d).2=0)(ha:((mendG g d).1.2.append x.file x.b).2=0)(hs:(((mendG g d).1.2.append x.file x.b).1.sync x.file).2=0):
  appendG g d p=(({(mendG g d).1.1 with segs:=putG g.segs x p},(((mendG g d).1.2.append x.file x.b).1.sync x.file).1),(headG (putG g.segs x p),0)):=by
 unfold appendG;rw[h];simp only;rw[if_neg (by simp[hm]),if_neg (by simp[ha]),if_neg (by simp[hs]),(mendG_same g d).1]
theorem ops_append(s:DS)(f:Int)(b:List UInt8):(s.append f b).1.ops≤s.ops+1:=by
 unfold DS.append;split<;>simp[DS.cnt]
theorem ops_cut(s:DS)(f n:Int):(s.cut f n).1.ops≤s.ops+1:=by
 unfold DS.cut;split
 ·simp
 ·split
  ·simp
  ·split<;>simp[DS.cnt]
theorem ops_remove(s:DS)(f:Int):(s.remove f).1.ops≤s.ops+1:=by
 unfold DS.remove;split
 ·simp
 ·split<;>simp[DS.cnt]
theorem ops_mend(g:PLog)(d:DS):(mendG g d).1.2.ops≤d.ops+1:=by
 unfold mendG;split
 ·simp
 ·simp only
  split
  ·exact ops_remove _ _
  ·exact ops_cut _ _ _
theorem Yr(X:Chunk)(lp dp:Nat)(g:PLog)(d:DS)(v:Value)(p:List UInt8)(hv:Rdb X v p)(hp:p.length≤140737488355328){M N:Nat}(hg:g.Ok M)(hM:M≤1000000000000)(hok:d.Ok N)(hN:N≤140737480000000)(hops:d.ops≤90000):
  SP 147 [.pointer (some ⟨lp,0,none⟩),v] [.ob (LogO lp dp g),.ob (DskO dp d),X] (Gives (.tuple #[.int .i64 (appendG g d p).2.1,.int .i64 (appendG g d p).2.2]) [.ob (LogO lp dp (appendG g d p).1.1),.ob (DskO dp (appendG g d p).1.2),X]):=by
 intro W F w hS;apply vc147;unfold Vc147;(try simp only[app]at hS)
 obtain⟨va,vc,rfl,hvc⟩:=hv.sl hS Xh
 (refine Cc (Y6 X lp dp g d _ p hv hp hg (by omega) hok (by omega) (by omega)) ?_;clear hS)
 rintro r post hQ w hS
 cases hpl:planG g d.off p with
 | error e=>
  rw[hpl]at hQ
  obtain⟨hz,rfl,rfl⟩:=hQ
  rw[appendG_er hpl]
  refine Gm λb w hS=>?_
  refine⟨λvs w=>vs=[.int .i64 e]∧SL W (.ob (LogO lp dp g)::.ob (DskO dp d)::X::F) w,?_,?_⟩
  ·refine Gp ?_
   refine zc (λh=>absurd h hz) (λ_=>⟨rfl,SL.into hS Xi⟩)
  ·clear hS
   rintro v7 w ⟨hvs,hS⟩
   cases hvs
   refine⟨λvs w=>vs=[.int .i64 e]∧SL W (.ob (LogO lp dp g)::.ob (DskO dp d)::X::F) w,?_,?_⟩
   ·refine Gp ?_
    refine zc (λh=>absurd h hz) (λ_=>⟨rfl,hS⟩)
   ·clear hS
    rintro v7 w ⟨hvs,hS⟩
    cases hvs
    refine Gp ?_
    refine zc (λ_=>?_) (λh=>absurd hz h)
    (exact⟨_,⟨rfl,rfl⟩,SL.into hS Xi⟩)
 | ok x=>
  rw[hpl]at hQ
  obtain⟨a,c,rfl,rfl⟩:=hQ
  have hw:=planG_wr hg hpl
  have hmok:=mendG_ok (g:=g) hok
  have hmg:=mendG_gok (d:=d) hg
  have hms:=mendG_same g d
  have hmo:=ops_mend g d
  have hbl:=hw.bl
  have hpp:=hw.pl
  refine Gm λb w hS=>?_
  obtain⟨wb,rfl⟩:∃k,k=b:=⟨b,rfl⟩
  by_cases hm:(mendG g d).2=0
  ·
   have haok:=hmok.append x.file x.b
   have hao:=ops_append (mendG g d).1.2 x.file x.b
   have hsok:=haok.sync x.file
   have hkk:=appendG_k hpl hm
   have haa:=appendG_a hpl hm
   have hss:=appendG_s hpl hm
   generalize appendG g d p=G at *
   generalize mendG g d=m at *
   obtain⟨⟨g1,d1⟩,me⟩:=m
   simp only at *
   subst hm
   refine⟨λvs w=>vs=[.int .i64 (d1.append x.file x.b).2]∧SL W (.pt wb [.int .i64 x.file,.bool x.fresh,.slice a x.b.length c] 318::.ob (OwnSl (.slice a x.b.length c) 5 1 x.b.length (x.b.map u8c))::.ob (LogO lp dp g1)::.ob (DskO dp (d1.append x.file x.b).1)::X::F) w,?_,?_⟩
   ·refine Gp ?_
    refine zc (λ_=>?_) (λh=>absurd rfl h)
    obtain⟨sv,tv,xs,hx,hS⟩:=LogO.iff.1 (SL.into hS (t:=.ob (LogO lp dp g1)::.pt wb [.int .i64 x.file,.bool x.fresh,.slice a x.b.length c] 318::.ob (OwnSl (.slice a x.b.length c) 5 1 x.b.length (x.b.map u8c))::.ob (DskO dp d1)::X::F) Xi)
    refine Gn λw hS=>?_
    refine Cg (appendD_gen (.ob (OwnSl (.slice a x.b.length c) 5 1 x.b.length (x.b.map u8c))) dp d1 N hmok (by omega) x.file _ x.b (λhS h=>src_own hS h) (by omega)) λw hS=>?_
    have hS:=LogO.iff.2 ⟨sv,tv,xs,hx,SL.into hS (t:=.pt lp (lcells sv tv dp g1.base g1.size) 148::RowX sv xs::.ob (zh XSegO xs)::.ob (TornO tv g1.torn)::.pt wb [.int .i64 x.file,.bool x.fresh,.slice a x.b.length c] 318::.ob (OwnSl (.slice a x.b.length c) 5 1 x.b.length (x.b.map u8c))::.ob (DskO dp (d1.append x.file x.b).1)::X::F) Xi⟩
    exact SL.into hS Xi
   ·clear hS
    rintro v7 w ⟨hvs,hS⟩
    cases hvs
    by_cases ha:(d1.append x.file x.b).2=0
    ·rw[ha]
     refine⟨λvs w=>vs=[.int .i64 ((d1.append x.file x.b).1.sync x.file).2]∧SL W (.pt wb [.int .i64 x.file,.bool x.fresh,.slice a x.b.length c] 318::.ob (OwnSl (.slice a x.b.length c) 5 1 x.b.length (x.b.map u8c))::.ob (LogO lp dp g1)::.ob (DskO dp ((d1.append x.file x.b).1.sync x.file).1)::X::F) w,?_,?_⟩
     ·refine Gp ?_
      refine zc (λ_=>?_) (λh=>absurd rfl h)
      obtain⟨sv,tv,xs,hx,hS⟩:=LogO.iff.1 (SL.into hS (t:=.ob (LogO lp dp g1)::.pt wb [.int .i64 x.file,.bool x.fresh,.slice a x.b.length c] 318::.ob (OwnSl (.slice a x.b.length c) 5 1 x.b.length (x.b.map u8c))::.ob (DskO dp (d1.append x.file x.b).1)::X::F) Xi)
      refine Gn λw hS=>?_
      refine Cg (q8 dp (d1.append x.file x.b).1 _ haok (by omega) x.file) λw hS=>?_
      have hS:=LogO.iff.2 ⟨sv,tv,xs,hx,SL.into hS (t:=.pt lp (lcells sv tv dp g1.base g1.size) 148::RowX sv xs::.ob (zh XSegO xs)::.ob (TornO tv g1.torn)::.pt wb [.int .i64 x.file,.bool x.fresh,.slice a x.b.length c] 318::.ob (OwnSl (.slice a x.b.length c) 5 1 x.b.length (x.b.map u8c))::.ob (DskO dp ((d1.append x.file x.b).1.sync x.file).1)::X::F) Xi⟩
      exact SL.into hS Xi
     ·clear hS
      rintro v7 w ⟨hvs,hS⟩
      cases hvs
      by_cases hs:((d1.append x.file x.b).1.sync x.file).2=0
      ·rw[hs]
       have hG:=hkk ha hs
       subst hG
       clear hkk haa hss hao
       generalize ((d1.append x.file x.b).1.sync x.file).1=d3 at *
       refine Gp ?_
       refine zc (λh=>absurd rfl h) (λ_=>?_)
       obtain⟨sv,tv,xs,hx,hS⟩:=LogO.iff.1 (SL.into hS (t:=.ob (LogO lp dp g1)::.pt wb [.int .i64 x.file,.bool x.fresh,.slice a x.b.length c] 318::.ob (DskO dp d3)::X::F) Xi)
       obtain⟨hxo,hxl,_,_⟩:=hmg.xs hx
       have hhead:headG (xs.map XSeg.pl)=headG g.segs:=by rw[hx,hms.1]
       have hgd:=hw.hd
       have hge:=headG_ge hg.segs
       have hmok2:=moreG_ok hg hw
       refine⟨λvs w=>vs=[]∧∃sv' xs',xs'.map XSeg.pl=moreG g.segs x∧xs'.length≤xs.length+1∧SL W (.pt lp (lcells sv' tv dp g1.base g1.size) 148::RowX sv' xs'::.ob (zh XSegO xs')::.ob (TornO tv g1.torn)::.pt wb [.int .i64 x.file,.bool x.fresh,.slice a x.b.length c] 318::.ob (DskO dp d3)::X::F) w,?_,?_⟩
       ·refine Gp ?_
        unfold moreG
        refine yZ (λhf=>?_) (λhf=>?_)
        ·rw[if_pos hf]
         refine Gn λw hS=>?_
         refine Cg (yi lp (lcells sv tv dp g1.base g1.size) 148 sv xs rfl hxo (by omega) (by omega)) λw hS=>?_;refine Gm λb w hS=>?_
         rw[hhead]at hS
         have hone:=OwnSo.one hS (v:=sv) (t:=228) (sz:=4) (n:=xs.length) (cells:=(xs.map xcells).flatten) Xh
         refine y3 (m:=1) (cs:=[.int .i64 x.file,.int .i64 (headG g.segs+1),.int .i64 0,.slice none 0 0]) hS Xr (src_pt0 hS .hd rfl) rfl rfl (by simp[Value.oneCell']) (by omega) (by omega) ?_
         clear hS;intro sv' w hS
         have hone:=OwnSo.one hS (v:=sv') .hd
         refine Gn λw hS=>?_
         have hS:=OwnSo.nil0 (a:=none) (t:=62) (sz:=1) hS
         have hS:=zh.nil (A:=BEntO) (SL.into hS (t:=.ob (OwnSo (.slice none 0 0) 62 1 0 [])::.ob (zh XSegO xs)::.pt lp (lcells sv' tv dp g1.base g1.size) 148::.ob (OwnSo sv' 228 4 (xs.length+1) ((xs.map xcells).flatten++[.int .i64 x.file,.int .i64 (headG g.segs+1),.int .i64 0,.slice none 0 0]))::.ob (TornO tv g1.torn)::.pt wb [.int .i64 x.file,.bool x.fresh,.slice a x.b.length c] 318::.ob (DskO dp d3)::X::F) Xi)
         have hS:=(XSegO.iff (x:=⟨x.file,headG g.segs+1,0,[],none,0⟩)).2 (SL.into hS (t:=.ob (OwnSo (.slice none 0 0) 62 1 0 [])::.ob (zh BEntO [])::.ob (zh XSegO xs)::.pt lp (lcells sv' tv dp g1.base g1.size) 148::.ob (OwnSo sv' 228 4 (xs.length+1) ((xs.map xcells).flatten++[.int .i64 x.file,.int .i64 (headG g.segs+1),.int .i64 0,.slice none 0 0]))::.ob (TornO tv g1.torn)::.pt wb [.int .i64 x.file,.bool x.fresh,.slice a x.b.length c] 318::.ob (DskO dp d3)::X::F) Xi)
         have hS:=zh.snoc (SL.into hS (t:=.ob (zh XSegO xs)::.ob (XSegO ⟨x.file,headG g.segs+1,0,[],none,0⟩)::.pt lp (lcells sv' tv dp g1.base g1.size) 148::.ob (OwnSo sv' 228 4 (xs.length+1) ((xs.map xcells).flatten++[.int .i64 x.file,.int .i64 (headG g.segs+1),.int .i64 0,.slice none 0 0]))::.ob (TornO tv g1.torn)::.pt wb [.int .i64 x.file,.bool x.fresh,.slice a x.b.length c] 318::.ob (DskO dp d3)::X::F) Xi)
         have e1:xs.length+1=(xs++[(⟨x.file,headG g.segs+1,0,[],none,0⟩:XSeg)]).length:=by simp
         have e2:(xs.map xcells).flatten++[.int .i64 x.file,.int .i64 (headG g.segs+1),.int .i64 0,.slice none 0 0]=((xs++[(⟨x.file,headG g.segs+1,0,[],none,0⟩:XSeg)]).map xcells).flatten:=by simp[xcells,XSeg.lv]
         rw[e1,e2]at hS
         refine⟨sv',xs++[⟨x.file,headG g.segs+1,0,[],none,0⟩],?_,by simp,SL.into hS Xi⟩
         rw[List.map_append,hx,hms.1];rfl
        ·rw[if_neg (by rw[hf];decide)]
         exact⟨rfl,sv,xs,by rw[hx,hms.1],by omega,SL.into hS Xi⟩
       ·clear hS hxo hhead
        rintro w ⟨-,sv',xs',hx',hl',hS⟩
        obtain⟨A,s,hA⟩:=moreG_last hw
        rw[putG_eq _ _ _ hA]
        have hle:0<xs'.length:=by
         have:=congrArg List.length hx'
         rw[hA]at this;simp at this;omega
        have hj:xs'.length-1<xs'.length:=by omega
        have hsp:xs'=xs'.take (xs'.length-1)++[xs'[xs'.length-1]]:=by
         conv=>lhs;rw[← List.take_append_drop (xs'.length-1) xs']
         rw[List.drop_eq_getElem_cons hj,List.drop_eq_nil_of_le (by omega)]
        have hAs:A=(xs'.take (xs'.length-1)).map XSeg.pl∧s=(xs'[xs'.length-1]).pl:=by
         rw[hsp,List.map_append]at hx'
         rw[hA]at hx'
         have:=List.append_inj' hx' rfl
         exact⟨this.1.symm,by simpa using this.2.symm⟩
        obtain⟨hA1,hs1⟩:=hAs
        subst hA1 hs1
        have hso:=hmok2 (xs'[xs'.length-1]).pl (by rw[hA];simp)
        have z1:=hso.sz
        have z2:=hso.ln
        have hS:=zh.take (t:=xs'.length-1) (SL.into hS (t:=.ob (zh XSegO xs')::RowX sv' xs'::.pt lp (lcells sv' tv dp g1.base g1.size) 148::.ob (TornO tv g1.torn)::.pt wb [.int .i64 x.file,.bool x.fresh,.slice a x.b.length c] 318::.ob (DskO dp d3)::X::F) Xi) (List.getElem?_eq_getElem hj)
        have hS:=XSegO.iff.1 hS
        obtain⟨rb,ro,rc,AA,BB,rfl,hAA,hS,hback⟩:=RowX.at (SL.into hS (t:=RowX sv' xs'::.ob (OwnSo (xs'[xs'.length-1]).lv 62 1 (xs'[xs'.length-1]).es.length (vals (xs'[xs'.length-1]).es))::.ob (zh BEntO (xs'[xs'.length-1]).es)::.ob (zh XSegO (xs'.eraseIdx (xs'.length-1)))::.pt lp (lcells sv' tv dp g1.base g1.size) 148::.ob (TornO tv g1.torn)::.pt wb [.int .i64 x.file,.bool x.fresh,.slice a x.b.length c] 318::.ob (DskO dp d3)::X::F) Xi) hj
        generalize hx0:xs'[xs'.length-1]=x0 at *
        have z1:x0.size≤M:=z1
        have z2:x0.es.length≤M:=by simpa [XSeg.pl,byts_len] using z2
        refine Gn λw hS=>?_
        have e:((xs'.length:Nat):Int)-1=((xs'.length-1:Nat):Int):=by omega
        rw[e]
        refine zE hj ?_
        rw[← hAA]
        refine Gn λw hS=>?_
        refine ye hS Xh (pt_get (i:=2) (u:=.int .i64 x0.size) rfl) ?_
        refine Gp ?_
        refine Zc hS Xu (pt_get (i:=2) (u:=.int .i64 x0.size) rfl) rfl ?_
        clear hS;intro w hS
        rw[pt_set (by rw[xcells_len];decide)]at hS
        have e5:(xcells x0).set 2 (.int .i64 ((x0.size+x.b.length:Nat):Int))=[.int .i64 x0.file,.int .i64 x0.first,.int .i64 ((x0.size+x.b.length:Nat):Int),x0.lv]:=rfl
        rw[e5]at hS
        refine Gn λw hS=>?_
        refine ye hS Xh (pt_get (i:=3) (u:=x0.lv) rfl) ?_
        refine Zj (cs:=p.map u8c) hS (λw' c hS'=>hv.src hS' (.tl Xh)) (by simp) (u8c_one _) (by omega) ?_
        clear hS;intro u w hS _
        have hu:=hS.ownOne .hd
        obtain⟨ua,uc,eu,_⟩:=OwnSl.at hS .hd
        subst eu
        refine ye hS Xh (pt_get (i:=3) (u:=x0.lv) rfl) ?_
        refine Gm λb w hS=>?_
        refine ye hS Xh (pt_get (i:=3) (u:=x0.lv) rfl) ?_
        refine Gp ?_
        refine y3 (t:=62) (sz:=1) (n:=x0.es.length) (cells:=vals x0.es) (m:=1) (cs:=[.slice ua p.length uc]) hS Xr (src_pt0 hS .hd rfl) rfl rfl (by simp[Value.oneCell']) (by omega) (by omega) ?_
        clear hS;intro v' w hS
        have hone:=OwnSo.one hS (v:=v') .hd
        obtain⟨a',c',ev,_⟩:=OwnSo.at hS (v:=v') .hd
        subst ev
        refine Gp ?_
        refine Zc hS Xu (pt_get (i:=3) (u:=x0.lv) rfl) hone ?_
        clear hS;intro w hS
        rw[pt_set (by show 3<4;decide)]at hS
        have e6:([.int .i64 x0.file,.int .i64 x0.first,.int .i64 ((x0.size+x.b.length:Nat):Int),x0.lv]:List Value).set 3 (.slice a' (x0.es.length+1) c')=xcells ⟨x0.file,x0.first,x0.size+x.b.length,x0.es++[(.slice ua p.length uc,p)],a',c'⟩:=by
         simp[xcells,XSeg.lv]
        rw[e6]at hS
        let y:XSeg:=⟨x0.file,x0.first,x0.size+x.b.length,x0.es++[(.slice ua p.length uc,p)],a',c'⟩
        have hx2:(xs'.set (xs'.length-1) y).map XSeg.pl=(xs'.take (xs'.length-1)).map XSeg.pl++[addE x0.pl x.b.length p]:=by
         rw[List.set_eq_take_append_cons_drop,if_pos hj,List.drop_eq_nil_of_le (by omega),List.map_append]
         congr 1
         simp[y,XSeg.pl,addE,byts]
        have hpk:=(putG_ok hg hw).1
        rw[putG_eq _ _ _ hA,← hx2]at hpk
        have hS:=hback y w _ (SL.into hS (t:=.pt rb (AA++(xcells y++BB)) 228::.ob (OwnSo (.slice a' (x0.es.length+1) c') 62 1 (x0.es.length+1) (vals x0.es++[.slice ua p.length uc]))::.ob (OwnSl (.slice ua p.length uc) 5 1 p.length (p.map u8c))::.ob (zh BEntO x0.es)::.ob (zh XSegO (xs'.eraseIdx (xs'.length-1)))::.pt lp (lcells (.slice (some ⟨rb,ro,none⟩) xs'.length rc) tv dp g1.base g1.size) 148::.ob (TornO tv g1.torn)::.ob (DskO dp d3)::X::F) Xi)
        have hS:=SL.into hS (t:=.ob (OwnSl (.slice ua p.length uc) 5 1 p.length (p.map u8c))::.ob (zh BEntO x0.es)::.ob (OwnSo (.slice a' (x0.es.length+1) c') 62 1 (x0.es.length+1) (vals x0.es++[.slice ua p.length uc]))::.ob (zh XSegO (xs'.eraseIdx (xs'.length-1)))::RowX (.slice (some ⟨rb,ro,none⟩) xs'.length rc) (xs'.set (xs'.length-1) y)::.pt lp (lcells (.slice (some ⟨rb,ro,none⟩) xs'.length rc) tv dp g1.base g1.size) 148::.ob (TornO tv g1.torn)::.ob (DskO dp d3)::X::F) Xi
        have hS:SL W (.ob (BEntO (.slice ua p.length uc,p))::.ob (zh BEntO x0.es)::.ob (OwnSo (.slice a' (x0.es.length+1) c') 62 1 (x0.es.length+1) (vals x0.es++[.slice ua p.length uc]))::.ob (zh XSegO (xs'.eraseIdx (xs'.length-1)))::RowX (.slice (some ⟨rb,ro,none⟩) xs'.length rc) (xs'.set (xs'.length-1) y)::.pt lp (lcells (.slice (some ⟨rb,ro,none⟩) xs'.length rc) tv dp g1.base g1.size) 148::.ob (TornO tv g1.torn)::.ob (DskO dp d3)::X::F) w:=hS
        have hS:=zh.snoc (hS.perm (.swap _ _ _))
        have e7:x0.es.length+1=y.es.length:=by simp[y]
        have e8:vals x0.es++[.slice ua p.length uc]=vals y.es:=by simp[y,vals]
        rw[e7,e8]at hS
        have hS:=(XSegO.iff (x:=y)).2 (SL.into hS (t:=.ob (OwnSo (.slice a' y.es.length c') 62 1 y.es.length (vals y.es))::.ob (zh BEntO (x0.es++[(.slice ua p.length uc,p)]))::.ob (zh XSegO (xs'.eraseIdx (xs'.length-1)))::RowX (.slice (some ⟨rb,ro,none⟩) xs'.length rc) (xs'.set (xs'.length-1) y)::.pt lp (lcells (.slice (some ⟨rb,ro,none⟩) xs'.length rc) tv dp g1.base g1.size) 148::.ob (TornO tv g1.torn)::.ob (DskO dp d3)::X::F) Xi)
        have hS:=zh.put hS hj
        refine Gp ?_
        refine Cg (yi lp (lcells (.slice (some ⟨rb,ro,none⟩) xs'.length rc) tv dp g1.base g1.size) 148 (.slice (some ⟨rb,ro,none⟩) xs'.length rc) (xs'.set (xs'.length-1) y) rfl hpk (by omega) (by rw[List.length_set];omega)) λw hS=>?_
        rw[hx2]
        have hS:=(LogO.iff (g:={segs:=(xs'.take (xs'.length-1)).map XSeg.pl++[addE x0.pl x.b.length p],base:=g1.base,size:=g1.size,torn:=g1.torn})).2 ⟨_,tv,xs'.set (xs'.length-1) y,hx2,SL.into hS (t:=.pt lp (lcells (.slice (some ⟨rb,ro,none⟩) xs'.length rc) tv dp g1.base g1.size) 148::RowX (.slice (some ⟨rb,ro,none⟩) xs'.length rc) (xs'.set (xs'.length-1) y)::.ob (zh XSegO (xs'.set (xs'.length-1) y))::.ob (TornO tv g1.torn)::.ob (DskO dp d3)::X::F) Xi⟩
        exact⟨_,⟨rfl,rfl⟩,SL.into hS Xi⟩
      ·have hG:=hss ha hs
       subst hG
       refine Gp ?_
       refine zc (λ_=>?_) (λh=>absurd hs h)
       (exact⟨_,⟨rfl,rfl⟩,SL.into hS Xi⟩)
    ·have hG:=haa ha
     subst hG
     refine⟨λvs w=>vs=[.int .i64 (d1.append x.file x.b).2]∧SL W (.ob (LogO lp dp g1)::.ob (DskO dp (d1.append x.file x.b).1)::X::F) w,?_,?_⟩
     ·refine Gp ?_
      refine zc (λh=>absurd h ha) (λ_=>⟨rfl,SL.into hS Xi⟩)
     ·clear hS
      rintro v7 w ⟨hvs,hS⟩
      cases hvs
      refine Gp ?_
      refine zc (λ_=>?_) (λh=>absurd ha h)
      (exact⟨_,⟨rfl,rfl⟩,SL.into hS Xi⟩)
  ·rw[appendG_m hpl hm]
   refine⟨λvs w=>vs=[.int .i64 (mendG g d).2]∧SL W (.ob (LogO lp dp (mendG g d).1.1)::.ob (DskO dp (mendG g d).1.2)::X::F) w,?_,?_⟩
   ·refine Gp ?_
    refine zc (λh=>absurd h hm) (λ_=>⟨rfl,SL.into hS Xi⟩)
   ·clear hS
    rintro v7 w ⟨hvs,hS⟩
    cases hvs
    refine⟨λvs w=>vs=[.int .i64 (mendG g d).2]∧SL W (.ob (LogO lp dp (mendG g d).1.1)::.ob (DskO dp (mendG g d).1.2)::X::F) w,?_,?_⟩
    ·refine Gp ?_
     refine zc (λh=>absurd h hm) (λ_=>⟨rfl,hS⟩)
    ·clear hS
     rintro v7 w ⟨hvs,hS⟩
     cases hvs
     refine Gp ?_
     refine zc (λ_=>?_) (λh=>absurd hm h)
     (exact⟨_,⟨rfl,rfl⟩,SL.into hS Xi⟩)
theorem YR(lp dp:Nat)(g:PLog)(d:DS){M N:Nat}(hb0:0≤g.base)(hb1:g.base≤12288)(hok:d.Ok N)(hR:d.R.length≤100000):
  SP 137 [.pointer (some ⟨lp,0,none⟩)] [.ob (LogO lp dp g),.ob (DskO dp d)] (λv post=>post=[.ob (OwnSl v 3 1 (idsG g.base d.R).length ((idsG g.base d.R).map (Value.int .i64))),.ob (LogO lp dp g),.ob (DskO dp d)]):=by
 intro W F w hS;apply vc137;unfold Vc137;(try simp only[app]at hS)
 obtain⟨sv,tv,xs,hx,hS⟩:=LogO.iff.1 hS
 refine Gp ?_
 (refine Cc (YQ dp d N hok hR) ?_;clear hS)
 rintro fl post rfl w hS
 (try simp only[app]at hS)
 refine zx hS (t:=3) (sz:=1) (n:=d.R.length) (cells:=d.R.map λx=>.int .i64 x.id) Xh ?_
 have hS:SL W (.ob (OwnSl (.slice none 0 0) 3 1 (idsG g.base (d.R.take 0)).length ((idsG g.base (d.R.take 0)).map (Value.int .i64)))::_) w:=OwnSl.nil hS
 refine⟨λvs w=>∃(u:Value) (i:Nat),i≤d.R.length∧vs=[u,.int .i64 i]∧SL W (.ob (OwnSl u 3 1 (idsG g.base (d.R.take i)).length ((idsG g.base (d.R.take i)).map (Value.int .i64)))::.pt lp (lcells sv tv dp g.base g.size) 148::RowX sv xs::.ob (zh XSegO xs)::.ob (TornO tv g.torn)::.ob (DskO dp d)::.ob (OwnSl fl 3 1 d.R.length (d.R.map λx=>.int .i64 x.id))::F) w,
  λvs _=>match vs with|[_,.int _ i]=>(d.R.length-i).toNat|_=>0,⟨.slice none 0 0,0,by omega,rfl,SL.into hS Xi⟩,?_⟩
 clear hS
 rintro v3 v12 w ⟨u,i,hi,hvs,hS⟩
 cases hvs
 refine Gp ?_
 refine zc (λh=>?_) (λh=>?_)
 ·have hil:i<d.R.length:=by omega
  have hu:(d.R.map λx=>Value.int .i64 x.id)[i]?=some (.int .i64 d.R[i].id):=by simp[hil]
  have hidl:(idsG g.base (d.R.take i)).length≤100000:=by
   unfold idsG
   have:=List.length_filter_le (λf=>decide (g.base≤f∧f<g.base+4096)) ((d.R.take i).map PF.id)
   rw[List.length_map,List.length_take]at this
   omega
  have hstep:idsG g.base (d.R.take (i+1))=idsG g.base (d.R.take i)++if g.base≤d.R[i].id∧d.R[i].id<g.base+4096 then [d.R[i].id] else []:=by
   unfold idsG
   rw[List.take_add_one,List.getElem?_eq_getElem hil,List.map_append,List.filter_append]
   congr 1
   simp only[Option.toList_some,List.map_cons,List.map_nil,List.filter_cons,List.filter_nil,decide_eq_true_eq]
  have hlast:∀{w:World} {u:Value},(idsG g.base (d.R.take (i+1))=idsG g.base (d.R.take i))→SL W (.ob (OwnSl u 3 1 (idsG g.base (d.R.take i)).length ((idsG g.base (d.R.take i)).map (Value.int .i64)))::.pt lp (lcells sv tv dp g.base g.size) 148::RowX sv xs::.ob (zh XSegO xs)::.ob (TornO tv g.torn)::.ob (DskO dp d)::.ob (OwnSl fl 3 1 d.R.length (d.R.map λx=>.int .i64 x.id))::F) w →
    (∃(u':Value) (i':Nat),i'≤d.R.length∧[u,Value.int .i64 ((i+1:Nat):Int)]=[u',.int .i64 i']∧SL W (.ob (OwnSl u' 3 1 (idsG g.base (d.R.take i')).length ((idsG g.base (d.R.take i')).map (Value.int .i64)))::.pt lp (lcells sv tv dp g.base g.size) 148::RowX sv xs::.ob (zh XSegO xs)::.ob (TornO tv g.torn)::.ob (DskO dp d)::.ob (OwnSl fl 3 1 d.R.length (d.R.map λx=>.int .i64 x.id))::F) w):=λe h=>⟨_,i+1,by omega,rfl,by rw[e];exact h⟩
  refine z7 hS (t:=3) Xh hil hu ?_
  refine Gp ?_
  refine zc (λh1=>?_) (λh1=>?_)
  ·refine Gp ?_
   refine zc (λh2=>?_) (λh2=>?_)
   ·rw[if_pos ⟨h1,h2⟩]at hstep
    refine Gm λb w hS=>?_
    refine zz (m:=1) (cs:=[.int .i64 d.R[i].id]) hS Xr (src_pt0 hS .hd rfl) rfl rfl (by simp[Value.oneCell']) (by omega) (by omega) ?_
    clear hS;intro v' w hS
    have e1:(idsG g.base (d.R.take i)).length+1=(idsG g.base (d.R.take (i+1))).length:=by rw[hstep,List.length_append];rfl
    have e2:(idsG g.base (d.R.take i)).map (Value.int .i64)++[Value.int .i64 d.R[i].id]=(idsG g.base (d.R.take (i+1))).map (Value.int .i64):=by rw[hstep,List.map_append];rfl
    rw[e1,e2]at hS
    refine Gp ?_
    exact⟨⟨v',i+1,by omega,rfl,SL.into hS Xi⟩,by dsimp only;omega⟩
   ·rw[if_neg (by omega),List.append_nil]at hstep
    refine Gp ?_
    exact⟨hlast hstep hS,by dsimp only;omega⟩
  ·rw[if_neg (by omega),List.append_nil]at hstep
   refine Gp ?_
   exact⟨hlast hstep hS,by dsimp only;omega⟩
 ·have hie:i=d.R.length:=by omega
  subst hie
  rw[List.take_length]at hS
  have hS:=(LogO.iff (g:=g)).2 ⟨sv,tv,xs,hx,SL.into hS (t:=.pt lp (lcells sv tv dp g.base g.size) 148::RowX sv xs::.ob (zh XSegO xs)::.ob (TornO tv g.torn)::.ob (OwnSl v3 3 1 (idsG g.base d.R).length ((idsG g.base d.R).map (Value.int .i64)))::.ob (DskO dp d)::F) Xi⟩
  exact⟨_,rfl,SL.into hS Xi⟩
theorem scanA_ok2(f:Nat):∀b:List UInt8,b.length<f→(∀p∈(scanA b).1,p.length≤1048576)∧(scanA b).1.length≤(scanA b).2:=by
 induction f with
 | zero=>intro b h;omega
 | succ f ih=>
  intro b hb
  cases h:takeR b with
  | error e=>rw[scanA_er h];exact⟨by simp,by simp⟩
  | ok x=>
   obtain⟨p,n⟩:=x
   have h2:=takeR_len h
   obtain⟨i1,i2⟩:=ih (b.drop n) (by rw[List.length_drop];omega)
   rw[scanA_ok h]
   refine⟨λq hq=>?_,?_⟩
   ·rcases List.mem_cons.1 hq with rfl|hq
    ·exact h2.2.2.1
    ·exact i1 q hq
   ·show (p::(scanA (b.drop n)).1).length≤n+(scanA (b.drop n)).2
    rw[List.length_cons];omega
theorem readS_ok{q:List UInt8}{f:Int}{l:List (List UInt8)}{n:Nat}(h:readS q=some (f,l,n)):1≤f∧f≤1099511627776∧n≤q.length∧l.length≤q.length∧∀p∈l,p.length≤1048576:=by
 obtain⟨h1,h2⟩:=scanA_ok2 (q.length+1) q (by omega)
 have h3:=scanA_le (q.length+1) q (by omega)
 unfold readS at h
 split at h
 ·cases h
 ·rename_i hd l' hs
  rw[hs]at h1 h2
  cases hh:hdOf hd with
  | none=>rw[hh]at h;cases h
  | some k=>
   rw[hh]at h
   cases h
   have hk:1≤f∧f≤1099511627776:=by
    unfold hdOf at hh
    split at hh
    ·unfold hdF at hh
     split at hh
     ·split at hh
      ·rename_i hc
       cases hh;exact⟨hc.2.1,hc.2.2⟩
      ·cases hh
     ·cases hh
    ·cases hh
   refine⟨hk.1,hk.2,h3,?_,λp hp=>h1 p (.tail _ hp)⟩
   rw[List.length_cons]at h2;omega
def WinLe(R:List PF)(base:Int)(N:Nat):Prop:=∀x∈R,base≤x.id→x.id<base+4096→x.b.length≤N
theorem WinLe.all{R:List PF}{N:Nat}(h:∀x∈R,x.b.length≤N)(base:Int):WinLe R base N:=λx hx _ _=>h x hx
theorem WinLe.at_{R:List PF}{base:Int}{N:Nat}(h:WinLe R base N){f:Int}(hf:base≤f∧f<base+4096):∀x,getK PF.id R f=some x→x.b.length≤N:=λx hx=>by
 obtain⟨h1,h2⟩:=getK_mem hx
 have h2:x.id=f:=h2
 exact h x h1 (by omega) (by omega)
theorem loadG_ok{L:List PSeg}{R:List PF}{f:Int}{last:Bool}{M N:Nat}(hR:∀x,getK PF.id R f=some x→x.b.length≤N)(hN:N≤M)(f0:0≤f)(f1:f≤100000)(hL:∀s∈L,SegOk s M):(∀s∈(loadG L R f last).2,SegOk s M)∧(loadG L R f last).2.length≤L.length+1:=by
 have hq:(((getK PF.id R f).map PF.b).getD []).length≤N:=by
  cases hg:getK PF.id R f with
  | none=>simp
  | some x=>exact hR x hg
 unfold loadG
 generalize ((getK PF.id R f).map PF.b).getD []=q at *
 simp only
 cases hr:readS q with
 | none=>exact⟨hL,by simp⟩
 | some y=>
  obtain⟨k,l,n⟩:=y
  have:=readS_ok hr
  simp only
  split
  ·exact⟨hL,by simp⟩
  ·refine⟨λs hs=>?_,by simp⟩
   rcases List.mem_append.1 hs with hs|hs
   ·exact hL s hs
   ·rw[List.mem_singleton.1 hs]
    exact⟨f0,f1,this.1,this.2.1,by show n≤M;omega,by show l.length≤M;omega,this.2.2.2.2⟩
theorem qz(lp dp:Nat)(g:PLog)(d:DS)(f:Int)(last:Bool){M B N:Nat}(hg:g.Ok M)(hM:M≤1000000000000)(hok:d.Ok B)(hB:B≤140737488355328)(hfN:∀x,getK PF.id d.R f=some x→x.b.length≤N)(hN:N≤10000000000):
  SP 138 [.pointer (some ⟨lp,0,none⟩),.int .i64 f,.bool last] [.ob (LogO lp dp g),.ob (DskO dp d)] (Gives (.tuple #[.bool (loadG g.segs d.R f last).1.1,.bool (loadG g.segs d.R f last).1.2]) [.ob (LogO lp dp {g with segs:=(loadG g.segs d.R f last).2}),.ob (DskO dp d)]):=by
 intro W F w hS;apply vc138;unfold Vc138;(try simp only[app]at hS)
 obtain⟨sv,tv,xs,hx,hS⟩:=LogO.iff.1 hS
 obtain⟨hxo,hxl,hh0,hh1⟩:=hg.xs hx
 have hhead:headG (xs.map XSeg.pl)=headG g.segs:=by rw[hx]
 have hgl:g.segs.length=xs.length:=by rw[← hx,List.length_map]
 refine Gp ?_
 (refine Cc (ZS dp d B hok hB f) ?_;clear hS)
 rintro r post hQ w hS
 have hq:(((getK PF.id d.R f).map PF.b).getD []).length≤N:=by
  cases hg:getK PF.id d.R f with
  | none=>simp
  | some x=>exact hfN x hg
 have hload:loadG g.segs d.R f last=match readS (((getK PF.id d.R f).map PF.b).getD []) with
  | none=>((false,last),g.segs)
  | some (first,l,n)=>if (last=false∧(n≠(((getK PF.id d.R f).map PF.b).getD []).length∨l.length=0))∨(0<g.segs.length∧first≠headG g.segs+1)∨1099511627776<first+l.length-1 then ((true,false),g.segs)
   else ((true,true),g.segs++[⟨f,first,n,l⟩]):=rfl
 have hrd:∃(X:Chunk) (a:Option Addr) (c:Nat) (bb:Bool),r= .tuple #[.slice a (((getK PF.id d.R f).map PF.b).getD []).length c,.bool bb]∧Rdb X (.slice a (((getK PF.id d.R f).map PF.b).getD []).length c) (((getK PF.id d.R f).map PF.b).getD [])∧SL W (X::.ob (DskO dp d)::.pt lp (lcells sv tv dp g.base g.size) 148::RowX sv xs::.ob (zh XSegO xs)::.ob (TornO tv g.torn)::F) w:=by
  unfold ReadQ at hQ
  cases hg:getK PF.id d.R f with
  | none=>
   rw[hg]at hQ
   obtain⟨rfl,rfl⟩:=hQ
   (try simp only[app]at hS)
   exact⟨.mem Heap.emp,none,0,false,rfl,Rdb.nil,SL.into hS.memNil Xi⟩
  | some x=>
   rw[hg]at hQ
   obtain⟨u,rfl,rfl⟩:=hQ
   (try simp only[app]at hS)
   obtain⟨a,c,rfl,_⟩:=OwnSl.at hS (v:=u) (t:=5) (sz:=1) (n:=x.b.length) (cells:=x.b.map u8c) Xh
   exact⟨.ob (OwnSl (.slice a x.b.length c) 5 1 x.b.length (x.b.map u8c)),a,c,true,rfl,Rdb.own,SL.into hS Xi⟩
 clear hS hQ
 obtain⟨X,a,c,bb,rfl,hX,hS⟩:=hrd
 rw[hload]
 clear hload
 generalize ((getK PF.id d.R f).map PF.b).getD []=q at *
 refine Gp ?_
 (refine Cc (YM X _ q hX (by omega)) ?_;clear hS)
 rintro r post hQ w hS
 unfold ReadQ2 at hQ
 cases hr:readS q with
 | none=>
  rw[hr]at hQ
  obtain⟨rfl,rfl⟩:=hQ
  (try simp only[app]at hS);refine Gp ?_
  refine zc (λ_=>?_) (λh=>absurd (by decide) h)
  have hS:=(LogO.iff (g:=g)).2 ⟨sv,tv,xs,hx,SL.into hS (t:=.pt lp (lcells sv tv dp g.base g.size) 148::RowX sv xs::.ob (zh XSegO xs)::.ob (TornO tv g.torn)::.ob (DskO dp d)::F) Xi⟩
  exact⟨_,⟨rfl,rfl⟩,SL.into hS Xi⟩
 | some y=>
  obtain⟨first,l,n⟩:=y
  have hrk:=readS_ok hr
  rw[hr]at hQ
  obtain⟨u,es,he,rfl,rfl⟩:=hQ
  (try simp only[app]at hS)
  have hel:l.length=es.length:=by rw[← he,byts_len]
  obtain⟨ua,uc,rfl,_⟩:=OwnSo.at hS (v:=u) .hd
  obtain⟨r1,r2,r3,r4,r5⟩:=hrk
  simp only[hel,hgl]
  have hsOne:SegOk (XSeg.pl ⟨f,first,n,es,ua,uc⟩) M∨True:=.inr trivial
  refine Gp ?_
  refine zc (λh=>absurd rfl h) (λ_=>?_)
  refine Gm λb w hS=>?_
  obtain⟨sb,rfl⟩:∃k,k=b:=⟨b,rfl⟩
  obtain⟨I,hI⟩:∃I:List Value→World→Prop,I=λvs w=>∃bad:Bool,vs=[.bool bad]∧(bad=true↔((last=false∧(n≠q.length∨es.length=0))∨(0<xs.length∧first≠headG g.segs+1)∨1099511627776<first+es.length-1)) ∧
   SL W (.pt sb [.int .i64 f,.int .i64 first,.int .i64 n,.slice ua es.length uc] 228::.ob (OwnSo (.slice ua es.length uc) 62 1 es.length (vals es))::.ob (zh BEntO es)::.ob (DskO dp d)::.pt lp (lcells sv tv dp g.base g.size) 148::RowX sv xs::.ob (zh XSegO xs)::.ob (TornO tv g.torn)::F) w:=⟨_,rfl⟩
  refine⟨I,?_,?_⟩
  ·have hend:∀(w:World) (K:Value→World→Prop),¬(last=false∧(n≠q.length∨es.length=0))→SL W (.pt sb [.int .i64 f,.int .i64 first,.int .i64 n,.slice ua es.length uc] 228::.ob (OwnSo (.slice ua es.length uc) 62 1 es.length (vals es))::.ob (zh BEntO es)::.ob (DskO dp d)::.pt lp (lcells sv tv dp g.base g.size) 148::RowX sv xs::.ob (zh XSegO xs)::.ob (TornO tv g.torn)::F) w →
     (∀(bad:Bool) w,(bad=true↔((last=false∧(n≠q.length∨es.length=0))∨(0<xs.length∧first≠headG g.segs+1)∨1099511627776<first+es.length-1))→SL W (.pt sb [.int .i64 f,.int .i64 first,.int .i64 n,.slice ua es.length uc] 228::.ob (OwnSo (.slice ua es.length uc) 62 1 es.length (vals es))::.ob (zh BEntO es)::.ob (DskO dp d)::.pt lp (lcells sv tv dp g.base g.size) 148::RowX sv xs::.ob (zh XSegO xs)::.ob (TornO tv g.torn)::F) w→K (.bool bad) w) →
     (ze (.pointer (some ⟨lp,0,none⟩)) λv54=>zd 0 v54 λv55=>zd 0 v55 λv56=>HLd v56 w λv57=>zf v57 λv58=>za .gtr v58 (.int .i64 0) λv59=>
      HIf v59
      (ze (.pointer (some ⟨lp,0,none⟩)) λv63=>zd 0 v63 λv64=>HCl 69 [v64] w λv65 w_5=>za .add v65 (.int .i64 1) λv66=>za .neq (.int .i64 first) v66 λv67=>
       HIf v67 (K (.bool true) w_5)
       (zk 4 (.pointer (some ⟨sb,0,none⟩)) w_5 λv71=>HCl 152 [v71] w_5 λv72 w_6=>za .sub v72 (.int .i64 1) λv73=>za .gtr v73 (.int .i64 1099511627776) λv74=>K v74 w_6))
      (zk 4 (.pointer (some ⟨sb,0,none⟩)) w λv71_1=>HCl 152 [v71_1] w λv72_1 w_7=>za .sub v72_1 (.int .i64 1) λv73_1=>za .gtr v73_1 (.int .i64 1099511627776) λv74_1=>K v74_1 w_7)):=by
    intro w K hn hS hK
    clear bb
    refine Gp ?_
    refine zV hS (v:=sv) (t:=228) (sz:=4) (n:=xs.length) (cells:=(xs.map xcells).flatten) Xh ?_
    refine Gp ?_
    refine zc (λh1=>?_) (λh1=>?_)
    ·refine Gp ?_
     refine Cg (yi lp (lcells sv tv dp g.base g.size) 148 sv xs rfl hxo (by omega) (by omega)) λw hS=>?_
     rw[hhead]
     refine zc (λh2=>?_) (λh2=>?_)
     ·refine hK true _ ⟨λ_=>.inr (.inl ⟨by omega,by omega⟩),λ_=>rfl⟩ (SL.into hS Xi)
     ·refine Gp ?_
      refine Cg (yT f first n ua es.length uc (by omega) (by omega)) λw hS=>?_
      refine hK _ _ ⟨λh=>.inr (.inr (by simpa using h)),λh=>?_⟩ (SL.into hS Xi)
      rcases h with h|h|h
      ·exact absurd h hn
      ·omega
      ·simpa using h
    ·refine Gp ?_
     refine Cg (yT f first n ua es.length uc (by omega) (by omega)) λw hS=>?_
     refine hK _ _ ⟨λh=>.inr (.inr (by simpa using h)),λh=>?_⟩ (SL.into hS Xi)
     rcases h with h|h|h
     ·exact absurd h hn
     ·omega
     ·simpa using h
   cases last with
   | false=>
    refine zP ?_
    refine zy ?_
    refine Gp ?_
    refine zc (λh1=>?_) (λh1=>?_)
    ·rw[hI];exact⟨true,rfl,⟨λ_=>.inl ⟨rfl,.inl (by omega)⟩,λ_=>rfl⟩,SL.into hS Xi⟩
    ·refine Gp ?_
     refine zc (λh2=>?_) (λh2=>?_)
     ·rw[hI];exact⟨true,rfl,⟨λ_=>.inl ⟨rfl,.inr (by omega)⟩,λ_=>rfl⟩,SL.into hS Xi⟩
     ·exact hend w (λv w=>I [v] w) (by omega) (SL.into hS Xi) (λbad w hb h=>by rw[hI];exact⟨bad,rfl,hb,h⟩)
   | true=>
    refine zP ?_
    refine zt ?_
    exact hend w (λv w=>I [v] w) (by simp) (SL.into hS Xi) (λbad w hb h=>by rw[hI];exact⟨bad,rfl,hb,h⟩)
  ·clear hS
   rw[hI]
   rintro v75 w ⟨bad,hvs,hbad,hS⟩
   cases hvs
   cases bad with
   | true=>
    refine zy ?_
    rw[if_pos (hbad.1 rfl)]
    have hS:=(LogO.iff (g:=g)).2 ⟨sv,tv,xs,hx,SL.into hS (t:=.pt lp (lcells sv tv dp g.base g.size) 148::RowX sv xs::.ob (zh XSegO xs)::.ob (TornO tv g.torn)::.ob (DskO dp d)::F) Xi⟩
    exact⟨_,⟨rfl,rfl⟩,SL.into hS Xi⟩
   | false=>
    refine zt ?_
    rw[if_neg (λh=>by have:=hbad.2 h;cases this)]
    refine Gm λb w hS=>?_
    refine y3 (t:=228) (sz:=4) (n:=xs.length) (cells:=(xs.map xcells).flatten) (m:=1) (cs:=[.int .i64 f,.int .i64 first,.int .i64 n,.slice ua es.length uc]) hS Xr (src_pt0 hS .hd rfl) rfl rfl (by simp[Value.oneCell']) (by omega) (by omega) ?_
    clear hS;intro sv' w hS
    have hone:=OwnSo.one hS (v:=sv') .hd
    refine Gn λw hS=>?_
    have hS:=(XSegO.iff (x:=⟨f,first,n,es,ua,uc⟩)).2 (SL.into hS (t:=.ob (OwnSo (.slice ua es.length uc) 62 1 es.length (vals es))::.ob (zh BEntO es)::.ob (zh XSegO xs)::.ob (DskO dp d)::.pt lp (lcells sv' tv dp g.base g.size) 148::.ob (OwnSo sv' 228 4 (xs.length+1) ((xs.map xcells).flatten++[.int .i64 f,.int .i64 first,.int .i64 n,.slice ua es.length uc]))::.ob (TornO tv g.torn)::F) Xi)
    have hS:=zh.snoc (hS.into (t:=.ob (zh XSegO xs)::.ob (XSegO ⟨f,first,n,es,ua,uc⟩)::.ob (DskO dp d)::.pt lp (lcells sv' tv dp g.base g.size) 148::.ob (OwnSo sv' 228 4 (xs.length+1) ((xs.map xcells).flatten++[.int .i64 f,.int .i64 first,.int .i64 n,.slice ua es.length uc]))::.ob (TornO tv g.torn)::F) Xi)
    have e1:xs.length+1=(xs++[(⟨f,first,n,es,ua,uc⟩:XSeg)]).length:=by simp
    have e2:(xs.map xcells).flatten++[.int .i64 f,.int .i64 first,.int .i64 n,.slice ua es.length uc]=((xs++[(⟨f,first,n,es,ua,uc⟩:XSeg)]).map xcells).flatten:=by simp[xcells,XSeg.lv]
    rw[e1,e2]at hS
    have hx2:(xs++[(⟨f,first,n,es,ua,uc⟩:XSeg)]).map XSeg.pl=g.segs++[⟨f,first,n,l⟩]:=by
     rw[List.map_append,hx];simp[XSeg.pl,he]
    have hS:=(LogO.iff (g:={g with segs:=g.segs++[⟨f,first,n,l⟩]})).2 ⟨sv',tv,xs++[⟨f,first,n,es,ua,uc⟩],hx2,SL.into hS (t:=.pt lp (lcells sv' tv dp g.base g.size) 148::RowX sv' (xs++[⟨f,first,n,es,ua,uc⟩])::.ob (zh XSegO (xs++[⟨f,first,n,es,ua,uc⟩]))::.ob (TornO tv g.torn)::.ob (DskO dp d)::F) Xi⟩
    exact⟨_,⟨rfl,rfl⟩,SL.into hS Xi⟩
theorem YO(lp dp:Nat)(g:PLog)(d:DS)(iv:Value)(ids:List Int)(whole:Bool){M N:Nat}(hg:g.Ok M)(hM:M≤1000000000000)(hok:d.Ok N)(hN:N≤140737488355328)(hops:d.ops≤100000)(hne:whole=true→ids≠[]→g.segs≠[])(hil:ids.length≤100000):
  SP 139 [.pointer (some ⟨lp,0,none⟩),iv,.bool whole] [.ob (LogO lp dp g),.ob (DskO dp d),.ob (OwnSl iv 3 1 ids.length (ids.map (Value.int .i64)))]
   (Gives (.int .i64 (beginG g.segs d ids whole).2) [.ob (LogO lp dp g),.ob (DskO dp (beginG g.segs d ids whole).1),.ob (OwnSl iv 3 1 ids.length (ids.map (Value.int .i64)))]):=by
 intro W F w hS;apply vc139;unfold Vc139;(try simp only[app]at hS)
 obtain⟨sv,tv,xs,hx,hS⟩:=LogO.iff.1 hS
 obtain⟨hxo,hxl,_,_⟩:=hg.xs hx
 have hfin:∀{w:World} {d':DS},SL W (.pt lp (lcells sv tv dp g.base g.size) 148::RowX sv xs::.ob (zh XSegO xs)::.ob (TornO tv g.torn)::.ob (DskO dp d')::.ob (OwnSl iv 3 1 ids.length (ids.map (Value.int .i64)))::F) w→SL W (.ob (LogO lp dp g)::.ob (DskO dp d')::.ob (OwnSl iv 3 1 ids.length (ids.map (Value.int .i64)))::F) w:=λh=>(LogO.iff (g:=g)).2 ⟨_,tv,_,hx,h⟩
 refine zx hS (v:=iv) (t:=3) (sz:=1) (n:=ids.length) (cells:=ids.map (Value.int .i64)) Xh ?_
 refine Gp ?_
 refine zc (λh=>?_) (λh=>?_)
 ·have:ids=[]:=List.eq_nil_of_length_eq_zero (by omega)
  subst this
  have hS:=hfin (SL.into hS Xi)
  exact⟨_,⟨rfl,rfl⟩,hS⟩
 ·have hj:ids.length-1<ids.length:=by omega
  have hgl:ids.getLast?=some (ids[ids.length-1]'hj):=by rw[List.getLast?_eq_getElem?,List.getElem?_eq_getElem hj]
  have hne':ids≠[]:=λe=>by rw[e]at h;simp at h
  have hu:(ids.map (Value.int .i64))[ids.length-1]?=some (.int .i64 (ids[ids.length-1]'hj)):=by simp[hj]
  generalize (ids[ids.length-1]'hj)=f at *
  refine zx hS (v:=iv) (t:=3) (sz:=1) (n:=ids.length) (cells:=ids.map (Value.int .i64)) Xh ?_
  refine Gp ?_
  have e:((ids.length:Nat):Int)-1=((ids.length-1:Nat):Int):=by omega
  rw[e]
  refine z7 hS (v:=iv) (t:=3) Xh hj hu ?_
  cases whole with
  | false=>
   have hb:beginG g.segs d ids false=d.remove f:=by unfold beginG;rw[hgl];rfl
   rw[hb]
   refine zP ?_
   refine zy ?_
   refine Gp ?_
   refine Cg (Zg dp d N hok hops f) λw hS=>?_
   have hS:=hfin (SL.into hS Xi)
   exact⟨_,⟨rfl,rfl⟩,hS⟩
  | true=>
   have hb:beginG g.segs d ids true=if lastSize g.segs<lenF d.R f then d.cut f (lastSize g.segs) else (d,0):=by unfold beginG;rw[hgl];rfl
   rw[hb]
   refine zP ?_
   refine zt ?_
   have hn:=hne rfl hne'
   have hle:0<xs.length:=by
    rcases Nat.eq_zero_or_pos xs.length with h0|h0
    ·rw[← hx,List.eq_nil_of_length_eq_zero h0]at hn;exact absurd rfl hn
    ·exact h0
   have hj2:xs.length-1<xs.length:=by omega
   have hlz:lastSize g.segs=((xs[xs.length-1]'hj2).size:Nat):=by
    unfold lastSize
    rw[← hx,List.getLast?_map,List.getLast?_eq_getElem?,List.getElem?_eq_getElem hj2];rfl
   rw[hlz]
   refine Gn λw hS=>?_
   refine zV hS (v:=sv) (t:=228) (sz:=4) (n:=xs.length) (cells:=(xs.map xcells).flatten) Xh ?_
   refine Gp ?_
   have e:((xs.length:Nat):Int)-1=((xs.length-1:Nat):Int):=by omega
   rw[e]
   refine s_segF (i:=2) hS Xh hj2 (u:=.int .i64 ((xs[xs.length-1]'hj2).size:Nat)) rfl ?_
   generalize (xs[xs.length-1]'hj2).size=z at *
   refine Gp ?_
   refine Cg (QJ dp d f) λw hS=>?_
   refine zc (λh1=>?_) (λh1=>?_)
   ·rw[if_pos h1]
    refine Gp ?_
    refine Cg (Z8 dp d N hok (by omega) hops f (z:Int)) λw hS=>?_
    have hS:=hfin (SL.into hS Xi)
    exact⟨_,⟨rfl,rfl⟩,hS⟩
   ·rw[if_neg h1]
    have hS:=hfin (SL.into hS Xi)
    exact⟨_,⟨rfl,rfl⟩,hS⟩
def OpenQ(dp:Nat)(y:DS × Except Int PLog)(r:Value)(post:List Chunk):Prop:=match y.2 with
 | .error e=>e≠0∧r= .tuple #[.pointer none,.int .i64 e]∧post=[.ob (DskO dp y.1)]
 | .ok g=>∃lp:Nat,r= .tuple #[.pointer (some ⟨lp,0,none⟩),.int .i64 0]∧post=[.ob (LogO lp dp g),.ob (DskO dp y.1)]
theorem loadsG_ok{R:List PF}{M N:Nat}{base:Int}(hR:WinLe R base N)(hN:N≤M)(b0:0≤base)(b1:base≤12288):∀(ids:List Int) (prev:Option Int) (L:List PSeg) (wh:Bool) (k:Nat),(∀f∈ids,base≤f∧f<base+4096)→(∀s∈L,SegOk s M)→L.length≤k→∀{L' wh'},loadsG R ids prev L wh=some (L',wh')→(∀s∈L',SegOk s M)∧L'.length≤k+ids.length
 | [],prev,L,wh,k,_,hL,hk,L',wh',h=>by
  cases h;exact⟨hL,by simpa using hk⟩
 | f::r,prev,L,wh,k,hf,hL,hk,L',wh',h=>by
  rw[loadsG_cons]at h
  obtain⟨f0,f1⟩:=hf f (.head _)
  obtain⟨k1,k2⟩:=loadG_ok (last:=r.isEmpty) (hR.at_ ⟨f0,f1⟩) hN (by omega) (by omega) hL
  split at h
  ·cases h
  ·split at h
   ·cases h
   ·have:=loadsG_ok hR hN b0 b1 r _ _ _ (k+1) (λx hx=>hf x (.tail _ hx)) k1 (by omega) h
    exact⟨this.1,by simp at this ⊢;omega⟩
theorem idsG_mem{base:Int}{R:List PF}{f:Int}(h:f∈idsG base R):base≤f∧f<base+4096:=by
 unfold idsG at h
 have:=(List.mem_filter.1 h).2
 simpa using this
theorem idsG_len(base:Int)(R:List PF):(idsG base R).length≤R.length:=by
 unfold idsG
 have:=List.length_filter_le (λf=>decide (base≤f∧f<base+4096)) (R.map PF.id)
 rwa [List.length_map]at this
theorem openG_gokW{d d':DS}{base size:Int}{N:Nat}(hw:WinLe d.R base N)(hR:d.R.length≤100000){g:PLog}(h:openG d base size=(d',.ok g)):g.Ok (N+100000)∧d.off=false:=by
 unfold openG at h
 split at h
 ·cases h
 ·rename_i hb
  split at h
  ·cases h
  ·rename_i ho
   split at h
   ·cases h
   ·rename_i L wh hl
    obtain⟨k1,k2⟩:=loadsG_ok (M:=N+100000) hw (by omega) (by omega) (by omega) _ _ [] _ 0 (λf hf=>idsG_mem hf) (by simp) (by simp) hl
    have:=idsG_len base d.R
    have hL:(⟨L,base,size,none⟩:PLog).Ok (N+100000):=⟨k1,by show 0≤base;omega,by show base≤12288;omega,by show 64≤size;omega,by show size≤65536;omega,by show L.length≤_;omega⟩
    split at h
    ·cases h
    ·cases h;exact⟨hL,by simpa using ho⟩
theorem openL_specW(dp:Nat)(d:DS)(base size:Int){N B:Nat}(hok:d.Ok B)(hB:B≤140737488355328)(hw:WinLe d.R base N)(hN:N≤1000000000)(hR:d.R.length≤100000)(hops:d.ops≤100000):
  SP 55 [.pointer (some ⟨dp,0,none⟩),.int .i64 base,.int .i64 size] [.ob (DskO dp d)] (OpenQ dp (openG d base size)):=by
 intro W F w hS;apply vc55;unfold Vc55;(try simp only[app]at hS)
 by_cases hbd:base<0∨12288<base∨size<64∨65536<size
 ·have e:openG d base size=(d,.error 1):=by unfold openG;rw[if_pos hbd]
  rw[e]
  have hE:∀{w:World},SL W (.ob (DskO dp d)::F) w→∃post,OpenQ dp (d,.error 1) (.tuple #[.pointer none,.int .i64 1]) post∧SL W (app post F) w:=λh=>⟨_,⟨by decide,rfl,rfl⟩,h⟩
  refine Gp ?_
  refine zc (λh=>hE hS) (λh1=>?_)
  refine Gp ?_
  refine zc (λh=>hE hS) (λh2=>?_)
  refine Gp ?_
  refine zc (λh=>hE hS) (λh3=>?_)
  refine Gp ?_
  refine zc (λh=>hE hS) (λh4=>by omega)
 ·refine Gp ?_
  refine zc (λh=>by omega) (λ_=>?_)
  refine Gp ?_
  refine zc (λh=>by omega) (λ_=>?_)
  refine Gp ?_
  refine zc (λh=>by omega) (λ_=>?_)
  refine Gp ?_
  refine zc (λh=>by omega) (λ_=>?_)
  refine Cg (y8 dp d) λw hS=>?_
  refine yZ (λho=>?_) (λho=>?_)
  ·have e:openG d base size=(d,.error 8):=by unfold openG;rw[if_neg hbd,if_pos ho]
   rw[e]
   exact⟨_,⟨by decide,rfl,rfl⟩,hS⟩
  ·have eo:openG d base size=match loadsG d.R (idsG base d.R) none [] true with
    | none=>(d,.error 3)
    | some (L,whole)=>if (beginG L d (idsG base d.R) whole).2≠0 then ((beginG L d (idsG base d.R) whole).1,.error (beginG L d (idsG base d.R) whole).2) else ((beginG L d (idsG base d.R) whole).1,.ok ⟨L,base,size,none⟩):=by
    unfold openG;rw[if_neg hbd,if_neg (by rw[ho];decide)];rfl
   rw[eo]
   have hi:∀f∈idsG base d.R,base≤f∧f<base+4096:=λf hf=>idsG_mem hf
   have hil:=idsG_len base d.R
   refine Gp ?_
   refine⟨_,rfl,zN hS ?_⟩
   clear hS;intro lp w hS
   have hS:=(TornO_none (v:=.pointer none)).2 ⟨rfl,hS⟩
   have hS:=OwnSo.nil0 (a:=none) (t:=228) (sz:=4) hS
   have hS:=zh.nil (A:=XSegO) hS
   have hS:=SL.into hS (t:=.pt lp (lcells (.slice none 0 0) (.pointer none) dp base size) 148::.ob (OwnSo (.slice none 0 0) 228 4 0 [])::.ob (zh XSegO [])::.ob (TornO (.pointer none) none)::.ob (DskO dp d)::F) Xi
   have hS:=(LogO.iff (g:=⟨[],base,size,none⟩)).2 ⟨_,_,[],rfl,hS⟩
   (refine Cc (YR lp dp ⟨[],base,size,none⟩ d (M:=0) (N:=B) (by show 0≤base;omega) (by show base≤12288;omega) hok hR) ?_;clear hS)
   rintro iv post rfl w hS;(try simp only[app]at hS)
   generalize hids:idsG base d.R=ids at *
   refine zx hS (v:=iv) (t:=3) (sz:=1) (n:=ids.length) (cells:=ids.map (Value.int .i64)) Xh ?_
   refine⟨λvs w=>∃(wh:Bool) (i:Nat) (L:List PSeg),i≤ids.length∧vs=[.bool wh,.int .i64 i]∧loadsG d.R ids none [] true=loadsG d.R (ids.drop i) (if i=0 then none else ids[i-1]?) L wh∧(∀s∈L,SegOk s (N+100000))∧L.length≤i∧(wh=true→0<i→L≠[])∧SL W (.ob (LogO lp dp ⟨L,base,size,none⟩)::.ob (DskO dp d)::.ob (OwnSl iv 3 1 ids.length (ids.map (Value.int .i64)))::F) w,
    λvs _=>match vs with|[_,.int _ i]=>(ids.length-i).toNat|_=>0,⟨true,0,[],by omega,rfl,rfl,by simp,by simp,λ_ h=>by omega,SL.into hS Xi⟩,?_⟩
   clear hS
   rintro v10 v43 w ⟨wh,i,L,hi1,hvs,hld,hLok,hLl,hwh,hS⟩
   cases hvs
   have hLO:(⟨L,base,size,none⟩:PLog).Ok (N+100000):=⟨hLok,by show 0≤base;omega,by show base≤12288;omega,by show 64≤size;omega,by show size≤65536;omega,by show L.length≤_;omega⟩
   refine Gp ?_
   refine zc (λh1=>?_) (λh1=>?_)
   ·have hj:i<ids.length:=by omega
    have hu:(ids.map (Value.int .i64))[i]?=some (.int .i64 ids[i]):=by simp[hj]
    have hfi:=hi _ (List.getElem_mem hj)
    rw[List.drop_eq_getElem_cons hj,loadsG_cons]at hld
    refine z7 hS (v:=iv) (t:=3) Xh hj hu ?_
    refine zx hS (v:=iv) (t:=3) (sz:=1) (n:=ids.length) (cells:=ids.map (Value.int .i64)) Xh ?_
    refine Gp ?_
    have hlast:decide (((i:Nat):Int)=((ids.length:Nat):Int)-1)=(ids.drop (i+1)).isEmpty:=by
     rw[Bool.eq_iff_iff,decide_eq_true_iff,List.isEmpty_iff,List.drop_eq_nil_iff]
     omega
    rw[hlast]
    obtain⟨k1,k2⟩:=loadG_ok (L:=L) (f:=ids[i]) (last:=(ids.drop (i+1)).isEmpty) (M:=N+100000) (hw.at_ hfi) (by omega) (by omega) (by omega) hLok
    have hnn:(loadG L d.R ids[i] (ids.drop (i+1)).isEmpty).1.1=true→(loadG L d.R ids[i] (ids.drop (i+1)).isEmpty).1.2=true→(loadG L d.R ids[i] (ids.drop (i+1)).isEmpty).2≠[]:=by
     unfold loadG
     simp only
     split
     ·intro h;cases h
     ·split
      ·intro _ h;cases h
      ·intro _ _;simp
    refine Cg (qz lp dp ⟨L,base,size,none⟩ d ids[i] (ids.drop (i+1)).isEmpty hLO (by omega) hok hB (hw.at_ hfi) (by omega)) λw hS=>?_
    generalize hLG:loadG L d.R ids[i] (ids.drop (i+1)).isEmpty=y at *
    obtain⟨⟨is,ok⟩,L2⟩:=y
    simp only at hS hld k1 k2 hnn ⊢
    cases ok with
    | false=>
     refine zy ?_
     rw[if_pos rfl]at hld
     rw[hld]
     exact⟨_,⟨by decide,rfl,rfl⟩,SL.into hS Xi⟩
    | true=>
     refine zt ?_
     rw[if_neg (by decide)]at hld
     have hnext:∀{w:World},(¬gapG (if i=0 then none else ids[i-1]?) ids[i]=true)→SL W (.ob (LogO lp dp ⟨L2,base,size,none⟩)::.ob (DskO dp d)::.ob (OwnSl iv 3 1 ids.length (ids.map (Value.int .i64)))::F) w →
       ∃(wh:Bool) (i':Nat) (L:List PSeg),i'≤ids.length∧[Value.bool is,Value.int .i64 ((i+1:Nat):Int)]=[.bool wh,.int .i64 i']∧loadsG d.R ids none [] true=loadsG d.R (ids.drop i') (if i'=0 then none else ids[i'-1]?) L wh∧(∀s∈L,SegOk s (N+100000))∧L.length≤i'∧(wh=true→0<i'→L≠[])∧SL W (.ob (LogO lp dp ⟨L,base,size,none⟩)::.ob (DskO dp d)::.ob (OwnSl iv 3 1 ids.length (ids.map (Value.int .i64)))::F) w:=by
      intro w hp hS
      refine⟨is,i+1,L2,by omega,rfl,?_,k1,by omega,λh _=>hnn h rfl,hS⟩
      rw[if_neg hp]at hld
      rw[hld,if_neg (by omega),Nat.add_sub_cancel,List.getElem?_eq_getElem hj]
     refine Gp ?_
     refine zc (λh2=>?_) (λh2=>?_)
     ·have hj0:i-1<ids.length:=by omega
      have hf0:=hi _ (List.getElem_mem hj0)
      refine Gp ?_
      have e:((i:Nat):Int)-1=((i-1:Nat):Int):=by omega
      rw[e]
      have hu0:(ids.map (Value.int .i64))[i-1]?=some (.int .i64 (ids[i-1]'hj0)):=by simp[hj0]
      refine z7 hS (v:=iv) (t:=3) Xh hj0 hu0 ?_
      have hpv:gapG (if i=0 then none else ids[i-1]?) ids[i]=decide (ids[i]≠(ids[i-1]'hj0)+1):=by
       rw[if_neg (by omega),List.getElem?_eq_getElem hj0];rfl
      refine Gp ?_
      refine zc (λh3=>?_) (λh3=>?_)
      ·rw[if_pos (by rw[hpv];simpa using h3)]at hld
       rw[hld]
       exact⟨_,⟨by decide,rfl,rfl⟩,SL.into hS Xi⟩
      ·refine Gp ?_
       exact⟨hnext (by rw[hpv];simpa using h3) (SL.into hS Xi),by dsimp only;omega⟩
     ·refine Gp ?_
      have hi0:i=0:=by omega
      exact⟨hnext (by rw[if_pos hi0];simp[gapG]) (SL.into hS Xi),by dsimp only;omega⟩
   ·have hie:i=ids.length:=by omega
    rw[hie,List.drop_length]at hld
    rw[hld]
    simp only[loadsG]
    have hbo:=beginG_ok (L:=L) (ids:=ids) (wh:=wh) hok
    refine Cg (YO lp dp ⟨L,base,size,none⟩ d iv ids wh hLO (by omega) hok (by omega) hops (λh hne=>hwh h (by rw[hie];exact List.length_pos_iff.2 hne)) (by omega)) λw hS=>?_
    simp only at hS ⊢
    refine zc (λh2=>?_) (λh2=>?_)
    ·rw[if_pos h2]
     exact⟨_,⟨h2,rfl,rfl⟩,SL.into hS Xi⟩
    ·rw[if_neg h2]
     exact⟨_,⟨lp,rfl,rfl⟩,SL.into hS Xi⟩
section
variable (lp dp:Nat) (g:PLog) {M:Nat} (hg:g.Ok M) (hM:M≤1000000000000)
include hg hM
theorem qy:SP 69 [.pointer (some ⟨lp,0,none⟩)] [.ob (LogO lp dp g)] (Gives (.int .i64 (headG g.segs)) [.ob (LogO lp dp g)]):=by
 intro W F w hS
 obtain⟨sv,tv,xs,hx,hS⟩:=LogO.iff.1 hS
 obtain⟨h1,h2,_,_⟩:=hg.xs hx
 refine yO (yi lp (lcells sv tv dp g.base g.size) 148 sv xs rfl h1 (by omega) (by omega)) hS Xp ?_
 rintro v post ⟨rfl,rfl⟩ w hS
 (try simp only[app]at hS)
 rw[hx]
 exact⟨_,⟨rfl,rfl⟩,LogO.iff.2 ⟨sv,tv,xs,hx,SL.into hS Xi⟩⟩
theorem QO:SP 70 [.pointer (some ⟨lp,0,none⟩)] [.ob (LogO lp dp g)] (Gives (.int .i64 (lowG g.segs)) [.ob (LogO lp dp g)]):=by
 intro W F w hS
 obtain⟨sv,tv,xs,hx,hS⟩:=LogO.iff.1 hS
 obtain⟨h1,h2,_,_⟩:=hg.xs hx
 refine yO (QN lp (lcells sv tv dp g.base g.size) 148 sv xs rfl (by omega)) hS Xp ?_
 rintro v post ⟨rfl,rfl⟩ w hS
 (try simp only[app]at hS)
 rw[hx]
 exact⟨_,⟨rfl,rfl⟩,LogO.iff.2 ⟨sv,tv,xs,hx,SL.into hS Xi⟩⟩
theorem qN(n:Int)(hn : -9000000000000000000≤n∧n≤9000000000000000000):SP 71 [.pointer (some ⟨lp,0,none⟩),.int .i64 n] [.ob (LogO lp dp g)] (ReadLQ [.ob (LogO lp dp g)] (readG g.segs n)):=by
 intro W F w hS
 obtain⟨sv,tv,xs,hx,hS⟩:=LogO.iff.1 hS
 obtain⟨h1,h2,_,_⟩:=hg.xs hx
 refine yO (qM lp (lcells sv tv dp g.base g.size) 148 sv xs n rfl h1 (by omega) (by omega) hn) hS Xp ?_
 intro r post hQ w hS
 rw[hx]at hQ
 cases hr:readG g.segs n with
 | none=>
  rw[hr]at hQ
  obtain⟨rfl,rfl⟩:=hQ
  (try simp only[app]at hS)
  exact⟨_,⟨rfl,rfl⟩,LogO.iff.2 ⟨sv,tv,xs,hx,SL.into hS Xi⟩⟩
 | some b=>
  rw[hr]at hQ
  obtain⟨u,rfl,rfl⟩:=hQ
  (try simp only[app]at hS)
  have hS:=(LogO.iff (g:=g)).2 ⟨sv,tv,xs,hx,SL.into hS (t:=.pt lp (lcells sv tv dp g.base g.size) 148::RowX sv xs::.ob (zh XSegO xs)::.ob (TornO tv g.torn)::.ob (OwnSl u 5 1 b.length (b.map u8c))::F) Xi⟩
  exact⟨_,⟨u,rfl,rfl⟩,SL.into hS Xi⟩
end
abbrev scells(tp dp lp:Nat)(newest image:Int):List Value:=[ptrA tp,ptrA dp,ptrA lp,.int .i64 newest,.int .i64 image]
def SrcO(sp tp dp lp:Nat)(k:PSrc):zC:=zQ True [.pt sp (scells tp dp lp k.newest k.image) 58,.ob (TabO tp k.ts),.ob (LogO lp dp k.g)]
section
variable {W w:World} {l F:List Chunk} {sp tp dp lp:Nat}
theorem SrcO.iff{k:PSrc}:SL W (.ob (SrcO sp tp dp lp k)::l) w↔SL W (.pt sp (scells tp dp lp k.newest k.image) 58::.ob (TabO tp k.ts)::.ob (LogO lp dp k.g)::l) w:=by
 unfold SrcO
 simp only[SL.fact,true_and,List.cons_append,List.nil_append]
theorem SrcO.put(k:PSrc)(hS:SL W l w)(p:Pick [.pt sp (scells tp dp lp k.newest k.image) 58,.ob (TabO tp k.ts),.ob (LogO lp dp k.g)] l F):SL W (.ob (SrcO sp tp dp lp k)::F) w:=SrcO.iff.2 (hS.pick p)
end
theorem SrcO.putN{W w:World}{l F:List Chunk}{sp tp dp lp:Nat}{g:PLog}{d:DS}{ts:Tabs}{newest image:Int}(hS:SL W l w)(p:Pick [.pt sp (scells tp dp lp newest image) 58,.ob (TabO tp ts),.ob (LogO lp dp g)] l F):SL W (.ob (SrcO sp tp dp lp ⟨g,d,ts,newest,image⟩)::F) w:=SrcO.iff.2 (hS.pick p)
structure SOk(k:PSrc)(N:Nat):Prop where
 g:GOk k.g N
 d:k.d.Ok N
 rows:∀C∈k.ts,RowsOk C
 len:∀C∈k.ts,C.length≤1000
 n1:1≤k.ts.length
 n8:k.ts.length≤8
section
variable (sp tp dp lp:Nat) (k:PSrc) {N:Nat} (hg:GOk k.g N) (hN:N≤1000000000)
include hg hN
theorem yk:SP 21 [ptrA sp] [.ob (SrcO sp tp dp lp k)] (Gives (.int .i64 (headG k.g.segs)) [.ob (SrcO sp tp dp lp k)]):=by
 intro W F w hS;apply vc21;unfold Vc21;(try simp only[app]at hS)
 have hS:=SrcO.iff.1 hS
 refine Gp ?_
 refine Cg (qy lp dp k.g hg.ok (by omega)) λw hS=>?_
 exact⟨_,⟨rfl,rfl⟩,SL.into (SrcO.put k hS Xp) Xi⟩
theorem Yo:SP 22 [ptrA sp] [.ob (SrcO sp tp dp lp k)] (Gives (.int .i64 (lowG k.g.segs)) [.ob (SrcO sp tp dp lp k)]):=by
 intro W F w hS;apply vc22;unfold Vc22;(try simp only[app]at hS)
 have hS:=SrcO.iff.1 hS
 refine Gp ?_
 refine Cg (QO lp dp k.g hg.ok (by omega)) λw hS=>?_
 exact⟨_,⟨rfl,rfl⟩,SL.into (SrcO.put k hS Xp) Xi⟩
def ReadSQ(sp tp dp lp:Nat)(k:PSrc)(H:Heap)(lsn:Int)(r:Value)(post:List Chunk):Prop:=match k.readS lsn with
 | .error e=>e≠0∧∃H',H.le H'∧r= .tuple #[agg (encTx zTx),.int .i64 e]∧post=[.ob (SrcO sp tp dp lp k),.mem H']
 | .ok t=>∃x H',H.le H'∧r= .tuple #[agg (encTx x),.int .i64 0]∧TxIs H' x t∧post=[.ob (SrcO sp tp dp lp k),.mem H']
theorem Z0(H:Heap)(lsn:Int)(hl : -9000000000000000000≤lsn∧lsn≤9000000000000000000):SP 23 [ptrA sp,.int .i64 lsn] [.ob (SrcO sp tp dp lp k),.mem H] (ReadSQ sp tp dp lp k H lsn):=by
 intro W F w hS;apply vc23;unfold Vc23;(try simp only[app]at hS)
 refine Gb λzb w hS=>?_
 have hS:=SrcO.iff.1 (SL.into hS (t:=.ob (SrcO sp tp dp lp k)::.pt zb [.int .i64 0,.int .i64 0,.slice none 0 0,.slice none 0 0,.int .i64 0] 39::.mem H::F) Xi)
 refine Gp ?_
 (refine Cc (qN lp dp k.g hg.ok (by omega) lsn hl) ?_;clear hS)
 rintro r post hq w hS
 unfold ReadLQ at hq
 cases hr:readG k.g.segs lsn with
 | none=>
  rw[hr]at hq
  obtain⟨rfl,rfl⟩:=hq
  have he:k.readS lsn= .error 5:=by unfold PSrc.readS;rw[hr]
  (try simp only[app]at hS)
  have hS:=SrcO.put k hS Xp
  refine Gp ?_
  refine zc (λ_=>?_) (λh=>absurd (by decide) h)
  refine Gn λw hS=>?_
  exact⟨[.ob (SrcO sp tp dp lp k),.mem H],by unfold ReadSQ;rw[he];exact⟨by decide,H,Heap.le_refl H,rfl,rfl⟩,SL.into hS Xi⟩
 | some bs=>
  rw[hr]at hq
  obtain⟨u,rfl,rfl⟩:=hq
  have he:k.readS lsn=decTxn bs:=by unfold PSrc.readS;rw[hr]
  (try simp only[app]at hS)
  have hS:=SrcO.put k hS Xp
  refine Gp ?_
  refine zc (λh=>absurd rfl h) (λ_=>?_)
  (refine Cc (qJ (.ob (OwnSl u 5 1 bs.length (bs.map u8c))) H u bs Rdb.own) ?_;clear hS)
  rintro r post hq w hS
  unfold DecTQ at hq
  cases hd:decTxn bs with
  | error e=>
   rw[hd]at hq
   obtain⟨hne,H',hh,rfl,rfl⟩:=hq
   (try simp only[app]at hS)
   unfold encTx zTx
   refine Gn λw hS=>?_
   refine⟨[.ob (SrcO sp tp dp lp k),.mem H'],?_,SL.into hS Xi⟩
   unfold ReadSQ;rw[he,hd];exact⟨hne,H',hh,rfl,rfl⟩
  | ok t=>
   rw[hd]at hq
   obtain⟨x,H',hh,rfl,hx,rfl⟩:=hq
   (try simp only[app]at hS)
   have hc1:=hx.cv.one
   have hc2:=hx.sv.one
   refine Gp ?_
   refine zL (vs:=encTx x) hS Xu rfl rfl (encTx_one1 (lsn:=x.lsn) (kind:=x.kind) (mark:=x.mark) hc1 hc2) λw hS=>?_
   refine yt hS Xh rfl ?_
   refine⟨[.ob (SrcO sp tp dp lp k),.mem H'],?_,SL.into hS Xi⟩
   unfold ReadSQ;rw[he,hd];exact⟨x,H',hh,rfl,hx,rfl⟩
end
section
variable (sp tp dp lp:Nat) (k:PSrc)
theorem qk(t key n:Int)(hn:∀C∈k.ts,C.length≤1000000)(hs:∀C∈k.ts,SortedR C)(h1 : -1000000≤n)(h2:n≤9000000000000000000):SP 28 [ptrA sp,.int .i64 t,.int .i64 key,.int .i64 n] [.ob (SrcO sp tp dp lp k)] (λu post=>post=[RwO u (k.chunkS t key n),.ob (SrcO sp tp dp lp k)]):=by
 intro W F w hS;apply vc28;unfold Vc28;(try simp only[app]at hS)
 have hS:=SrcO.iff.1 hS
 refine Gp ?_
 (refine Cc (qm tp k.ts t key n hn hs h1 h2) ?_;clear hS)
 rintro u post rfl w hS
 (try simp only[app]at hS)
 exact⟨_,rfl,SL.into (t:=RwO u (afterR (tabAt k.ts t) key n)::.ob (SrcO sp tp dp lp k)::F) (SrcO.put k hS Xp) Xi⟩
end
theorem ZH(H:Heap)(v:Value)(l:List Chg)(n:Int)(hv:RdSl H 4 v l.length (l.map encChg).flatten)(hl:l.length≤140737488351232):SP 62 [v,.int .i64 n] [.mem H] (Gives (.bool (decide (∀c∈l,c.table<n))) [.mem H]):=by
 intro W F w hS;apply vc62;unfold Vc62;(try simp only[app]at hS)
 refine zn hv ?_
 refine⟨λus w=>∃i:Nat,us=[.int .i64 i]∧i≤l.length∧(∀j (h:j<l.length),j<i→l[j].table<n)∧SL W (.mem H::F) w,λus _=>match us with|[.int _ i]=>(l.length-i).toNat|_=>0,⟨0,rfl,by omega,λj h hj=>by omega,hS⟩,?_⟩
 clear hS
 rintro v9 w ⟨i,hus,hi,hall,hS⟩
 cases hus
 refine Gp ?_
 refine zc (λh=>?_) (λh=>?_)
 ·have hil:i<l.length:=by omega
  refine zU hS Xh encChg_len hv (x:=l[i]) (by simp[hil]) hil ?_
  have hf:¬l[i].table<n→decide (∀c∈l,c.table<n)=false:=λh=>decide_eq_false λh2=>h (h2 _ (List.getElem_mem hil))
  have hall2:l[i].table<n→∀j (h:j<l.length),j<i+1→l[j].table<n:=λh j hj hji=>by
   by_cases e:j=i
   ·subst e;exact h
   ·exact hall j hj (by omega)
  clear hall
  generalize l[i]=c at *
  obtain⟨ct,ck,cg,cv⟩:=c
  rw[encChg_mk]
  refine Gm λb w hS=>?_
  refine zc (λhb=>?_) (λhb=>?_)
  ·rw[hf (by show ¬ct<n;omega)]
   (exact⟨_,⟨rfl,rfl⟩,SL.into hS Xi⟩)
  ·refine Gp ?_
   refine⟨⟨i+1,rfl,by omega,hall2 (by show ct<n;omega),SL.into hS Xi⟩,by dsimp only;omega⟩
 ·rw[show decide (∀c∈l,c.table<n)=true from decide_eq_true λc hc=>by
   obtain⟨j,hj,rfl⟩:=List.getElem_of_mem hc
   exact hall j hj (by omega)]
  (exact⟨_,⟨rfl,rfl⟩,SL.into hS Xi⟩)
theorem mayTx_lsn{t:TxnD}(h:mayTx t=true){n:Int}(h1:1≤n)(h2:n≤1099511627776):mayTx {t with lsn:=n}=true:=by
 obtain⟨_,h3⟩:=mayTx_iff.1 h
 exact mayTx_iff.2 ⟨⟨h1,h2⟩,h3⟩
abbrev AnsS(sp tp dp lp:Nat)(H:Heap)(y:PSrc × (Int × Int)):Value→List Chunk→Prop:=Gives (.tuple #[.int .i64 y.2.1,.int .i64 y.2.2]) [.ob (SrcO sp tp dp lp y.1),.ob (DskO dp y.1.d),.mem H]
theorem Yl(sp tp dp lp:Nat)(k:PSrc)(H:Heap)(x:TxV)(t:TxnD)(hx:TxIs H x t)(hm:mayTx t=true){N:Nat}(hk:SOk k N)(hN:N≤1000000000)(hops:k.d.ops≤90000):
  SP 63 [ptrA sp,agg (encTx x)] [.ob (SrcO sp tp dp lp k),.ob (DskO dp k.d),.mem H] (AnsS sp tp dp lp H (k.addS t)):=by
 intro W F w hS;apply vc63;unfold Vc63;(try simp only[app]at hS)
 have hg:=hk.g
 obtain⟨ht1,ht2,ht3,ht4,ht5,ht6,ht7⟩:=mayTx_all hm
 have hd0:=headG_ge hg.ok.segs
 have hn6:∀C∈k.ts,C.length≤1000000:=λC hC=>by have:=hk.len C hC;omega
 have hst:∀C∈k.ts,SortedR C:=λC hC=>(hk.rows C hC).sorted
 have h8:=hk.n8
 refine zJ hS λxb w hS=>?_
 unfold encTx at hS
 rw[hx.lsn,hx.kind,hx.mark]at hS
 have hS:=SrcO.iff.1 (SL.into hS (t:=.ob (SrcO sp tp dp lp k)::TxC xb x t::.ob (DskO dp k.d)::.mem H::F) Xi)
 refine Gp ?_
 refine Cg (y8 dp k.d) λw hS=>?_
 cases ho:k.d.off with
 | true=>
  refine zy ?_
  rw[show k.addS t=(k,(0,8)) by unfold PSrc.addS;rw[if_pos ho]]
  exact⟨_,⟨rfl,rfl⟩,SL.into (SrcO.put k hS Xp) Xi⟩
 | false=>
  refine zt ?_
  refine Gn λw hS=>?_
  refine Cg (q9 tp k.ts H x.cv t.changes hx.cv (by omega) hst hn6 (by omega) (by omega)) λw hS=>?_
  refine zA (λhf=>?_) (λhf=>?_)
  ·rw[show k.addS t=(k,(0,7)) by unfold PSrc.addS;rw[if_neg (by simp[ho]),if_pos (.inl hf)]]
   exact⟨_,⟨rfl,rfl⟩,SL.into (SrcO.put k hS Xp) Xi⟩
  have hS:=SrcO.put k hS Xp
  refine Cg (yk sp tp dp lp k hg hN) λw hS=>?_
  refine zc (λhh=>?_) (λhh=>?_)
  ·rw[show k.addS t=(k,(0,7)) by unfold PSrc.addS;rw[if_neg (by simp[ho]),if_pos (.inr hh)]]
   exact⟨_,⟨rfl,rfl⟩,SL.into hS Xi⟩
  refine Cg (yk sp tp dp lp k hg hN) λw hS=>?_
  have hm2:=mayTx_lsn hm (n:=headG k.g.segs+1) (by omega) (by omega)
  have hx2:TxIs H ⟨headG k.g.segs+1,t.kind,x.cv,x.sv,t.mark⟩ {t with lsn:=headG k.g.segs+1}:=⟨rfl,rfl,rfl,hx.cv,hx.sv⟩
  have hadd:k.addS t=(let r:=appendG k.g k.d (bytesT {t with lsn:=headG k.g.segs+1});if r.2.2=0 then ({k with g:=r.1.1,d:=r.1.2,ts:=appsTs k.ts t.changes},(headG k.g.segs+1,0)) else ({k with g:=r.1.1,d:=r.1.2},(0,r.2.2))):=by
   unfold PSrc.addS
   rw[if_neg (by simp[ho]),if_neg (by rw[hf];simp;omega)]
  have hbl:=bytesTx_len hm2
  have hbo:=bytesTx_ok hm2
  rw[hadd]
  clear hadd
  generalize hq:({t with lsn:=headG k.g.segs+1}:TxnD)=t2 at *
  have hln:1≤headG k.g.segs+1:=by omega
  generalize headG k.g.segs+1=lsn at *
  (refine Cc (qK H ⟨lsn,t.kind,x.cv,x.sv,t.mark⟩ t2 hx2) ?_;clear hS)
  rintro r post hq w hS
  unfold EncTQ at hq
  rw[hbo]at hq
  obtain⟨bv,rfl,rfl⟩:=hq
  (try simp only[app]at hS)
  have hS:=SrcO.iff.1 (SL.into hS (t:=.ob (SrcO sp tp dp lp k)::.ob (OwnSl bv 5 1 (bytesTx t2).length ((bytesTx t2).map u8c))::.ob (DskO dp k.d)::.pt xb [.int .i64 lsn,.int .i64 t.kind,x.cv,x.sv,.int .i64 t.mark] 39::.mem H::F) Xi)
  refine Gp ?_
  refine⟨λus w=>us=[.int .i64 (appendG k.g k.d (bytesT t2)).2.2]∧SL W (.ob (LogO lp dp (appendG k.g k.d (bytesT t2)).1.1)::.ob (DskO dp (appendG k.g k.d (bytesT t2)).1.2)::.pt sp (scells tp dp lp k.newest k.image) 58::.ob (TabO tp k.ts)::.pt xb [.int .i64 lsn,.int .i64 t.kind,x.cv,x.sv,.int .i64 t.mark] 39::.mem H::F) w,?_,?_⟩
  ·refine Gp ?_
   refine zc (λ_=>?_) (λh=>absurd rfl h)
   refine Gp ?_
   refine Cg (Yr (.ob (OwnSl bv 5 1 (bytesTx t2).length ((bytesTx t2).map u8c))) lp dp k.g k.d bv (bytesTx t2) Rdb.own (by omega) hg.ok (by omega) hk.d (by omega) hops) λw hS=>?_
   exact SL.into hS Xi
  clear hS
  rintro v7 w ⟨hus,hS⟩
  cases hus
  generalize appendG k.g k.d (bytesT t2)=r at *
  obtain⟨⟨g',d'⟩,n',e'⟩:=r
  simp only at hS ⊢
  refine Gp ?_
  refine zc (λhe=>?_) (λhe=>?_)
  ·rw[if_neg he]
   exact⟨_,⟨rfl,rfl⟩,SL.into (SrcO.putN (d:=d') hS Xp) Xi⟩
  ·have he:e'=0:=by omega
   rw[if_pos he]
   refine Gn λw hS=>?_
   refine Cg (ZA tp k.ts H x.cv t.changes hx.cv (by omega) hst 1000 hk.len (by omega)) λw hS=>?_
   have hall:t.changes.all (chgIn k.ts.length)=true:=by
    unfold fitsTs at hf
    rw[Bool.and_eq_true]at hf
    exact hf.1
   rw[if_pos hall]at hS
   exact⟨_,⟨rfl,rfl⟩,SL.into (SrcO.putN (d:=d') hS Xp) Xi⟩
theorem YK(sp tp dp lp:Nat)(k:PSrc)(H:Heap)(sv cv:Value)(sg:List ByteArray)(l:List Chg)(hs:RdSl H 1 sv sg.length (sg.map Value.string))(hc:RdSl H 4 cv l.length (l.map encChg).flatten)(hl:l.length≤140737488351232){N:Nat}(hk:SOk k N)(hN:N≤1000000000)(hops:k.d.ops≤90000):
  SP 18 [ptrA sp,sv,cv] [.ob (SrcO sp tp dp lp k),.ob (DskO dp k.d),.mem H] (AnsS sp tp dp lp H (k.commitS sg l)):=by
 intro W F w hS;apply vc18;unfold Vc18;(try simp only[app]at hS)
 have hs1:=hs.one
 have hc1:=hc.one
 have hx:TxIs H ⟨1,1,cv,sv,0⟩ ⟨1,1,l,sg,0⟩:=⟨rfl,rfl,rfl,hc,hs⟩
 have e0:fillL [.int .i64 0,.int .i64 0,.slice none 0 0,.slice none 0 0,.int .i64 0] [(0,1,.int .i64 1),(1,1,.int .i64 1),(2,1,cv),(3,1,sv)]=some (encTx ⟨1,1,cv,sv,0⟩):=by
  simp[fillL,show ∀n,(Value.int .i64 n).cells = #[.int .i64 n] from λ_=>rfl,one_cells hs1,one_cells hc1,encTx]
 refine yq e0 ?_
 refine Gb λxb w hS=>?_
 refine zL hS Xu rfl rfl (encTx_one1 hc1 hs1) λw hS=>?_
 refine yt hS Xh rfl ?_
 refine Cg (yp H ⟨1,1,cv,sv,0⟩ ⟨1,1,l,sg,0⟩ hx) λw hS=>?_
 refine zA (λhm=>?_) (λhm=>?_)
 ·rw[show k.commitS sg l=(k,(0,1)) by unfold PSrc.commitS;rw[if_neg (by rw[hm];simp)]]
  exact⟨_,⟨rfl,rfl⟩,SL.into hS Xi⟩
 have hS:=SrcO.iff.1 (SL.into hS (t:=.ob (SrcO sp tp dp lp k)::.pt xb (encTx ⟨1,1,cv,sv,0⟩) 39::.ob (DskO dp k.d)::.mem H::F) Xi)
 refine Gp ?_
 refine Cg (yQ tp k.ts) λw hS=>?_
 refine Cg (ZH H cv l k.ts.length hc hl) λw hS=>?_
 have hS:=SrcO.put k hS Xp
 refine zA (λhb=>?_) (λhb=>?_)
 ·have hb:=of_decide_eq_false hb
  rw[show k.commitS sg l=(k,(0,1)) by unfold PSrc.commitS;rw[if_neg λh=>hb h.2]]
  exact⟨_,⟨rfl,rfl⟩,SL.into hS Xi⟩
 have hb:=of_decide_eq_true hb
 rw[show k.commitS sg l=k.addS ⟨1,1,l,sg,0⟩ by unfold PSrc.commitS;rw[if_pos ⟨hm,hb⟩]]
 refine yt hS Xh rfl ?_
 refine Cg (Yl sp tp dp lp k H ⟨1,1,cv,sv,0⟩ ⟨1,1,l,sg,0⟩ hx hm hk hN hops) λw hS=>?_
 exact⟨_,⟨rfl,rfl⟩,SL.into hS Xi⟩
def tabs(n:Int)(l:List TxnD)(k:Int):List (List Row):=if n<1∨8<n then [] else (List.range n.toNat).map λt:Nat=>foldR t (l.take (heldN k l.length))
theorem fold_len'(l:List TxnD)(tb:Int)(i:Nat):(foldR tb (l.take i)).length≤(l.flatMap (·.changes)).length:=by
 have h2:=len_foldl (l:=(l.take i).flatMap (·.changes)) [] tb
 have e:(l.flatMap (·.changes)).length=((l.take i).flatMap (·.changes)).length+((l.drop i).flatMap (·.changes)).length:=by
  have:l=l.take i++l.drop i:=by simp
  conv=>lhs;rw[this]
  simp only[List.flatMap_append,List.length_append]
 unfold foldR
 simp only[List.length_nil]at h2
 omega
theorem open00{base size:Int}(b0:0≤base)(b1:base≤12288)(s0:64≤size)(s1:size≤65536):openG s00 base size=(s00,.ok ⟨[],base,size,none⟩):=
 open_chain (L:=[]) (f:=base) (n:=1) trivial rfl rfl b0 b1 s0 s1 (Int.le_refl _) (by simp;omega) (by decide) (by simp[entsG])
theorem linv00{base size:Int}(b0:0≤base)(b1:base≤12288)(s0:64≤size)(s1:size≤65536):LInv ⟨[],base,size,none⟩ s00 base 1 []:=
 ⟨trivial,rfl,rfl,λ_=>⟨rfl,rfl⟩,Int.le_refl _,b0,b1,s0,s1,by decide,by show base+((0:Nat):Int)+2≤base+4096;omega,rfl,rfl⟩
theorem ok00{base size:Int}(b0:0≤base)(b1:base≤12288)(s0:64≤size)(s1:size≤65536):(⟨[],base,size,none⟩:PLog).Ok 0:=⟨by simp,b0,b1,s0,s1,Nat.le_refl _⟩
structure Few(n:Nat)(all:List TxnD):Prop where
 ok:TxsOk n all
 len:all.length≤1000
 chs:(all.flatMap (·.changes)).length≤1000
theorem Few.nil(n:Nat):Few n []:=⟨⟨by simp,λi h=>by simp at h,by simp⟩,by decide,by decide⟩
theorem Few.take{n:Nat}{all:List TxnD}(h:Few n all)(j:Nat):Few n (all.take j):=by
 refine⟨⟨λt ht=>h.ok.may t (List.mem_of_mem_take ht),λi hi=>?_,λt ht=>h.ok.ch t (List.mem_of_mem_take ht)⟩,by rw[List.length_take];have:=h.len;omega,?_⟩
 ·rw[List.getElem_take];exact h.ok.lsn i _
 ·have e:(all.flatMap (·.changes)).length=((all.take j).flatMap (·.changes)).length+((all.drop j).flatMap (·.changes)).length:=by
   conv=>lhs;rw[← List.take_append_drop j all]
   rw[List.flatMap_append,List.length_append]
  have:=h.chs
  omega
theorem Few.row{n:Nat}{all:List TxnD}(h:Few n all):∀C∈tabsN n all,C.length≤1000:=λC hC=>by
 unfold tabsN at hC
 obtain⟨t,_,rfl⟩:=List.mem_map.1 hC
 have:=fold_len' all (t:Int) all.length
 rw[List.take_length]at this
 have:=h.chs
 omega
theorem Few.rows{n:Nat}{all:List TxnD}(h:Few n all):∀C∈tabsN n all,RowsOk C:=tabsN_ok h.ok.may h.ok.ch
theorem Few.imgs{n:Nat}{all:List TxnD}(h:Few n all)(n1:1≤n)(n8:n≤8):ImgsOk n all:=λj hj=>by
 have ht:=h.take j
 have hl:=h.len
 refine mayImg_iff.2 ⟨⟨by omega,by omega,by rw[tabsN_len];exact n1,by rw[tabsN_len];exact n8⟩,λC hC=>⟨(ht.rows C hC).sorted,(ht.rows C hC).rows,ht.row C hC⟩⟩
theorem Few.fits{n:Nat}{all:List TxnD}{t:TxnD}(h:Few n (all++[t])):fitsTs (tabsN n all) t.changes=true:=by
 have hc:=h.ok.ch t (by simp)
 have hr:=h.row
 rw[← tabsN_add hc]at hr
 unfold fitsTs
 rw[Bool.and_eq_true,List.all_eq_true,List.all_eq_true]
 exact⟨λc hcl=>by rw[tabsN_len];exact hc c hcl,λC hC=>decide_eq_true (hr C hC)⟩
theorem Few.app{n:Nat}{all:List TxnD}(h:Few n all){t:TxnD}(hm:mayTx t=true)(hl:t.lsn=(all.length:Int)+1)(hc:∀c∈t.changes,chgIn n c=true)(h1:all.length+1≤1000)(h2:(all.flatMap (·.changes)).length+t.changes.length≤1000):Few n (all++[t]):=by
 refine⟨⟨λx hx=>?_,λi hi=>?_,λx hx=>?_⟩,by rw[List.length_append];exact h1,by rw[List.flatMap_append,List.length_append];simpa using h2⟩
 ·rcases List.mem_append.1 hx with hx|hx
  ·exact h.ok.may x hx
  ·rw[List.mem_singleton.1 hx];exact hm
 ·rw[List.getElem_append]
  split
  ·exact h.ok.lsn i _
  ·rename_i hn
   rw[List.length_append,List.length_singleton]at hi
   simp only[List.getElem_singleton]
   rw[hl];omega
 ·rcases List.mem_append.1 hx with hx|hx
  ·exact h.ok.ch x hx
  ·rw[List.mem_singleton.1 hx];exact hc
theorem SOk.mono{k:PSrc}{N M:Nat}(h:SOk k N)(hm:N≤M):SOk k M:=⟨h.g.mono hm,h.d.mono hm,h.rows,h.len,h.n1,h.n8⟩
theorem SOk.add{k:PSrc}{N:Nat}(h:SOk k N){t:TxnD}(hm:mayTx t=true):SOk (k.addS t).1 (N+2000):=by
 unfold PSrc.addS
 split
 ·exact h.mono (by omega)
 ·split
  ·exact h.mono (by omega)
  ·rename_i ho hf
   have hhd:=headG_ge h.g.ok.segs
   have hm2:=mayTx_lsn hm (n:=headG k.g.segs+1) (by omega) (by omega)
   have hl:=bytesTx_len hm2
   have hb:(bytesT {t with lsn:=headG k.g.segs+1}).length≤1200:=hl
   have hg:=appendG_GOk (d:=k.d) h.g (bytesT {t with lsn:=headG k.g.segs+1})
   have hd:=appendG_ok (g:=k.g) h.d (bytesT {t with lsn:=headG k.g.segs+1})
   generalize bytesT {t with lsn:=headG k.g.segs+1}=p at *
   have hfit:fitsTs k.ts t.changes=true:=by
    cases hq:fitsTs k.ts t.changes with
    | true=>rfl
    | false=>exact absurd (Or.inl hq) hf
   simp only
   split
   ·unfold fitsTs at hfit
    rw[Bool.and_eq_true,List.all_eq_true,List.all_eq_true]at hfit
    refine⟨hg.mono (by omega),hd.mono (by omega),appsTs_ok (k:=8) h.rows (mayTx_all hm).2.2.2.2.2.1 hfit.1,λC hC=>of_decide_eq_true (hfit.2 C hC),?_,?_⟩
    ·show 1≤(appsTs k.ts t.changes).length
     rw[appsTs_len];exact h.n1
    ·show (appsTs k.ts t.changes).length≤8
     rw[appsTs_len];exact h.n8
   ·exact⟨hg.mono (by omega),hd.mono (by omega),h.rows,h.len,h.n1,h.n8⟩
theorem SOk.commit{k:PSrc}{N:Nat}(h:SOk k N)(sg:List ByteArray)(l:List Chg):SOk (k.commitS sg l).1 (N+2000):=by
 unfold PSrc.commitS
 split
 ·rename_i hc;exact h.add hc.1
 ·exact h.mono (by omega)
def k00(n:Nat)(size:Int):PSrc:=⟨⟨[],16,size,none⟩,s00,List.replicate n [],-1,0⟩
theorem sopen00{n:Nat}(n1:1≤n)(n8:n≤8){size:Int}(s0:64≤size)(s1:size≤65536):openS s00 n size=(s00,.ok (k00 n size))∧SrcL n (k00 n size) [] 0 [] s00 16 0 0:=by
 have him:ImSt n [] [] (-1) 0:=⟨.nil,by simp,by simp,λ_=>rfl,.inl rfl,Nat.le_refl _,λh=>absurd rfl h,by simp⟩
 have hw:Win 16 4112 [] [] s00.R:=⟨by simp,by simp[s00],by simp⟩
 have:=openS_ok n1 n8 (Few.nil n).ok ((Few.nil n).imgs n1 n8) (I:=[]) (tr:=0) (open00 (base:=16) (by decide) (by decide) s0 s1) hw (linv00 (by decide) (by decide) s0 s1) rfl him (Nat.le_refl _) (Nat.le_refl _) (by decide)
 rw[tabsN_nil]at this
 exact this
theorem sok00{n:Nat}(n1:1≤n)(n8:n≤8){size:Int}(s0:64≤size)(s1:size≤65536):SOk (k00 n size) 0:=
 ⟨⟨ok00 (by decide) (by decide) s0 s1,trivial,show (0:Int)≤1099511627776 by decide,λx hx=>by cases hx⟩,s00_ok 0,λC hC=>by rw[(List.mem_replicate.1 hC).2];exact rowsOk_nil,λC hC=>by rw[(List.mem_replicate.1 hC).2];exact Nat.zero_le _,by show 1≤(List.replicate n []).length;rw[List.length_replicate];exact n1,by show (List.replicate n []).length≤8;rw[List.length_replicate];exact n8⟩
theorem SrcL.read{n:Nat}{k:PSrc}{all:List TxnD}{tr:Nat}{I:List PF}{d0:DS}{f:Int}{lo m:Nat}(h:SrcL n k all tr I d0 f lo m)(ho:∀t∈all,mayTx t=true){j:Nat}(h1:lo≤j)(h2:j<all.length):k.readS ((j:Int)+1)= .ok all[j]:=by
 unfold PSrc.readS
 rw[h.log.chain.read,if_pos (by omega),h.log.ents]
 have e:(((j:Int)+1-((lo:Int)+1)).toNat)=j-lo:=by omega
 have e2:((all.drop lo).map bytesT)[j-lo]?=some (bytesT all[j]):=by
  rw[List.getElem?_map,List.getElem?_drop,show lo+(j-lo)=j by omega,List.getElem?_eq_getElem h2];rfl
 rw[e,e2]
 exact bytesTx_dec (ho _ (List.getElem_mem h2))
end Go.Proofs.YtfenmffiidchcaaGreat
