/-
  Texts of the proof, joined: SrcR2, SameC, Same1, Law12, Law12A, PlayS.
-/
import Derived.Test.YtfenmffiidchcaaGreatJ10
import Derived.Test.YtfenmffiidchcaaGreatQVcG
import Derived.Test.YtfenmffiidchcaaGreatQVcF
namespace Go.Proofs.YtfenmffiidchcaaGreat
set_option linter.unusedVariables false
set_option maxRecDepth 100000
open Go.RowKit
abbrev RAnsS(kp xp lp rp:Nat)(H:Heap)(y:PSrc × (Int × Int))(v:Value)(post:List Chunk):Prop:=∃(n:Int) (H':Heap),H.le H'∧v= .tuple #[.int .i64 n,.int .i64 y.2.2]∧post=[.ob (RSrcO kp xp lp rp H' y.1),.ob (RDO H' xp y.1.d),.mem H']
theorem qA(kp xp lp rp:Nat)(k:PSrc)(H:Heap)(x:TxV)(t:TxnD)(hx:TxIs H x t)(hm:mayTx t=true){N:Nat}(hk:SOk k N)(hN:N≤1000000000)(hops:k.d.ops≤90000):
  SP 90 [ptrA kp,agg (encTx x)] [.ob (RSrcO kp xp lp rp H k),.ob (RDO H xp k.d),.mem H] (RAnsS kp xp lp rp H (k.addS t)):=by
 intro W F w hS;apply vc90;unfold Vc90;(try simp only[app]at hS)
 have hg:=hk.g
 have hhd:=hg.hd
 obtain⟨ht1,ht2,ht3,ht4,ht5,ht6,ht7⟩:=mayTx_all hm
 have hd0:=headG_ge hg.ok.segs
 refine zQ hS λxb w hS=>?_
 unfold encTx at hS
 rw[hx.lsn,hx.kind,hx.mark]at hS
 have hS:=RSrcO.iff.1 (SL.into hS (t:=.ob (RSrcO kp xp lp rp H k)::TxC xb x t::.ob (RDO H xp k.d)::.mem H::F) Xi)
 obtain⟨fv,ys,hrd,hS⟩:=RDO.iff.1 (SL.into hS (t:=.ob (RDO H xp k.d)::.pt kp (rscells xp lp rp k.newest k.image) 171::.ob (RSetO H rp k.ts)::.ob (RLogO lp xp k.g)::TxC xb x t::.mem H::F) Xi)
 refine Gp ?_
 have hS:=RDO.put k.d hS hrd Xp
 cases ho:k.d.off with
 | true=>
  refine zu ?_
  rw[show k.addS t=(k,(0,8)) by unfold PSrc.addS;rw[if_pos ho]]
  have hS:=RSrcO.put k hS Xp
  exact⟨_,⟨0,H,Heap.le_refl H,rfl,rfl⟩,SL.into hS Xi⟩
 | false=>
  refine zo ?_
  refine Gn λw hS=>?_
  (refine Cc (qi H rp k.ts x.cv t.changes hx.cv hk.len (by omega)) ?_;clear hS)
  rintro _ post ⟨H1,h01,rfl,rfl⟩ w hS
  (try simp only[app]at hS)
  have hS:=RDO.monoP h01 hS (xp:=xp) (s:=k.d) Xr
  have hx1:TxIs H1 x t:=hx.mono h01
  refine Gp ?_
  refine zD (λhf=>?_) (λhf=>?_)
  ·rw[show k.addS t=(k,(0,7)) by unfold PSrc.addS;rw[if_neg (by simp[ho]),if_pos (.inl hf)]]
   have hS:=RSrcO.put k hS Xp
   exact⟨_,⟨0,H1,h01,rfl,rfl⟩,SL.into hS Xi⟩
  refine Gp ?_
  refine Cg (zL lp xp k.g hg.ok (by omega)) λw hS=>?_
  refine zc (λhh=>?_) (λhh=>?_)
  ·rw[show k.addS t=(k,(0,7)) by unfold PSrc.addS;rw[if_neg (by simp[ho]),if_pos (.inr (by omega))]]
   have hS:=RSrcO.put k hS Xp
   exact⟨_,⟨0,H1,h01,rfl,rfl⟩,SL.into hS Xi⟩
  refine Gp ?_
  refine Cg (zL lp xp k.g hg.ok (by omega)) λw hS=>?_
  have hm2:=mayTx_lsn hm (n:=headG k.g.segs+1) (by omega) (by omega)
  have hx2:TxIs H1 ⟨headG k.g.segs+1,t.kind,x.cv,x.sv,t.mark⟩ {t with lsn:=headG k.g.segs+1}:=⟨rfl,rfl,rfl,hx1.cv,hx1.sv⟩
  have hadd:k.addS t=(let r:=appendG k.g k.d (bytesT {t with lsn:=headG k.g.segs+1});if r.2.2=0 then ({k with g:=r.1.1,d:=r.1.2,ts:=appsTs k.ts t.changes},(headG k.g.segs+1,0)) else ({k with g:=r.1.1,d:=r.1.2},(0,r.2.2))):=by
   unfold PSrc.addS
   rw[if_neg (by simp[ho]),if_neg (by rw[hf];simp;omega)]
  have hbl:=bytesTx_len hm2
  have hbo:=bytesTx_ok hm2
  rw[hadd]
  clear hadd
  generalize hq:({t with lsn:=headG k.g.segs+1}:TxnD)=t2 at *
  have hln:1≤headG k.g.segs+1:=by omega
  generalize headG k.g.segs+1=lsn at *
  (refine Cc (qD H1 ⟨lsn,t.kind,x.cv,x.sv,t.mark⟩ t2 hx2) ?_;clear hS)
  rintro r post hq w hS
  unfold EncTQ at hq
  rw[hbo]at hq
  obtain⟨bv,rfl,rfl⟩:=hq
  (try simp only[app]at hS)
  obtain⟨H2,h12,hB,hS⟩:=zz (H:=H1) (v:=bv) (n:=(bytesTx t2).length) (sz:=1) (t:=5) (cells:=(bytesTx t2).map u8c) hS Xp
  have hS:=RDO.monoP h12 hS (xp:=xp) (s:=k.d) Xr
  have hS:=RSetO.monoP h12 hS (r:=rp) (ts:=k.ts) Xr
  have h02:=Heap.le_trans h01 h12
  refine Gp ?_
  (refine Cc (Z6 H2 lp xp k.g k.d bv (bytesTx t2) hB (by omega) hg (by omega) hk.d (by omega) hops) ?_;clear hS)
  rintro _ post ⟨rfl,H3,h23,rfl⟩ w hS
  (try simp only[app]at hS)
  have hS:=RSetO.monoP h23 hS (r:=rp) (ts:=k.ts) Xr
  have h03:=Heap.le_trans h02 h23
  generalize appendG k.g k.d (bytesT t2)=r at *
  obtain⟨⟨g',d'⟩,n',e'⟩:=r
  simp only at hS ⊢
  refine Gp ?_
  refine zc (λhe=>?_) (λhe=>?_)
  ·rw[if_neg he]
   have hS:=RSrcO.putN (d:=d') hS Xp
   exact⟨_,⟨0,H3,h03,rfl,rfl⟩,SL.into hS Xi⟩
  ·have he:e'=0:=by omega
   rw[if_pos he]
   have hx3:=hx.mono h03
   refine Gn λw hS=>?_
   (refine Cc (yO H3 rp k.ts x.cv t.changes hx3.cv hk.len (by omega)) ?_;clear hS)
   rintro _ post hq2 w hS
   have hall:t.changes.all (chgIn k.ts.length)=true:=by
    unfold fitsTs at hf
    rw[Bool.and_eq_true]at hf
    exact hf.1
   unfold AppQ at hq2
   rw[if_pos hall]at hq2
   obtain⟨rfl,H4,h34,rfl⟩:=hq2
   (try simp only[app]at hS)
   have hS:=RDO.monoP h34 hS (xp:=xp) (s:=d') Xr
   have hS:=RSrcO.putN (d:=d') hS Xp
   exact⟨_,⟨n',H4,Heap.le_trans h03 h34,rfl,rfl⟩,SL.into hS Xi⟩
theorem Z7(kp xp lp rp:Nat)(k:PSrc)(H:Heap)(sv cv:Value)(sg:List ByteArray)(l:List Chg)(hs:RdSl H 1 sv sg.length (sg.map Value.string))(hc:RdSl H 4 cv l.length (l.map encChg).flatten)(hl:l.length≤140737488351232){N:Nat}(hk:SOk k N)(hN:N≤1000000000)(hops:k.d.ops≤90000):
  SP 31 [ptrA kp,sv,cv] [.ob (RSrcO kp xp lp rp H k),.ob (RDO H xp k.d),.mem H] (RAnsS kp xp lp rp H (k.commitS sg l)):=by
 intro W F w hS;apply vc31;unfold Vc31;(try simp only[app]at hS)
 have hs1:=hs.one
 have hc1:=hc.one
 have hx:TxIs H ⟨1,1,cv,sv,0⟩ ⟨1,1,l,sg,0⟩:=⟨rfl,rfl,rfl,hc,hs⟩
 have e0:fillL [.int .i64 0,.int .i64 0,.slice none 0 0,.slice none 0 0,.int .i64 0] [(0,1,.int .i64 1),(1,1,.int .i64 1),(2,1,cv),(3,1,sv)]=some (encTx ⟨1,1,cv,sv,0⟩):=by
  simp[fillL,show ∀n,(Value.int .i64 n).cells = #[.int .i64 n] from λ_=>rfl,one_cells hs1,one_cells hc1,encTx]
 refine y7 e0 ?_
 refine Gb λxb w hS=>?_
 refine yj hS Xu rfl rfl (encTx_one1 hc1 hs1) λw hS=>?_
 refine yg hS Xh rfl ?_
 refine Cg (yW H ⟨1,1,cv,sv,0⟩ ⟨1,1,l,sg,0⟩ hx) λw hS=>?_
 refine zD (λhm=>?_) (λhm=>?_)
 ·rw[show k.commitS sg l=(k,(0,1)) by unfold PSrc.commitS;rw[if_neg (by rw[hm];simp)]]
  exact⟨_,⟨0,H,Heap.le_refl H,rfl,rfl⟩,SL.into hS Xi⟩
 have hmc:=(mayTx_all hm).2.2.2.2.2.1
 have hmc:∀c∈l,mayCh c 8=true:=hmc
 refine⟨λus w=>∃i:Nat,us=[.int .i64 i]∧i≤l.length∧(∀j (h:j<l.length),j<i→l[j].table<(k.ts.length:Int))∧SL W (.ob (RSrcO kp xp lp rp H k)::.ob (RDO H xp k.d)::.pt xb (encTx ⟨1,1,cv,sv,0⟩) 39::.mem H::F) w,λus _=>match us with|[.int _ i]=>(l.length-i).toNat|_=>0,⟨0,rfl,by omega,λj h hj=>by omega,SL.into hS Xi⟩,?_⟩
 clear hS
 rintro v9 w ⟨i,hus,hi,hall,hS⟩
 cases hus
 refine zm hc ?_
 refine Gp ?_
 refine zc (λh=>?_) (λh=>?_)
 ·have hil:i<l.length:=by omega
  have hci:=mayCh_iff.1 (hmc _ (List.getElem_mem hil))
  have hS:=RSrcO.iff.1 (SL.into hS (t:=.ob (RSrcO kp xp lp rp H k)::.ob (RDO H xp k.d)::.pt xb (encTx ⟨1,1,cv,sv,0⟩) 39::.mem H::F) Xi)
  refine Gn λw hS=>?_
  refine zH hS Xh encChg_len hc (x:=l[i]) (List.getElem?_eq_getElem hil) hil (i:=0) rfl ?_
  refine Cg (ZO H rp k.ts l[i].table) λw hS=>?_
  have hS:=RSrcO.put k hS Xp
  refine zD (λhe=>?_) (λhe=>?_)
  ·have he:=of_decide_eq_false he
   rw[show k.commitS sg l=(k,(0,1)) by unfold PSrc.commitS;rw[if_neg λh=>he ⟨hci.1,h.2 _ (List.getElem_mem hil)⟩]]
   exact⟨_,⟨0,H,Heap.le_refl H,rfl,rfl⟩,SL.into hS Xi⟩
  ·have he:=of_decide_eq_true he
   refine Gp ?_
   refine⟨⟨i+1,rfl,by omega,λj hj hji=>?_,SL.into hS Xi⟩,by dsimp only;omega⟩
   by_cases e:j=i
   ·subst e;exact he.2
   ·exact hall j hj (by omega)
 ·have hA:∀c∈l,c.table<(k.ts.length:Int):=λc hc=>by
   obtain⟨j,hj,rfl⟩:=List.getElem_of_mem hc
   exact hall j hj (by omega)
  rw[show k.commitS sg l=k.addS ⟨1,1,l,sg,0⟩ by unfold PSrc.commitS;rw[if_pos ⟨hm,hA⟩]]
  refine yg hS Xh rfl ?_
  (refine Cc (qA kp xp lp rp k H ⟨1,1,cv,sv,0⟩ ⟨1,1,l,sg,0⟩ hx hm hk hN hops) ?_;clear hS)
  rintro _ post ⟨n,H',hh,rfl,rfl⟩ w hS
  (try simp only[app]at hS);refine Gp ?_
  exact⟨_,⟨n,H',hh,rfl,rfl⟩,SL.into hS Xi⟩
def ROpenSQ(xp:Nat)(H:Heap)(y:DS × Except Int PSrc)(r:Value)(post:List Chunk):Prop:=match y.2 with
 | .error e=>e≠0∧∃H',H.le H'∧r= .tuple #[.pointer none,.int .i64 e]∧post=[.ob (RDO H' xp y.1),.mem H']
 | .ok k=>∃kp lp rp H',H.le H'∧r= .tuple #[ptrA kp,.int .i64 0]∧post=[.ob (RSrcO kp xp lp rp H' k),.ob (RDO H' xp y.1),.mem H']
theorem yX(H:Heap)(xp:Nat)(d:DS)(tabs size:Int){N B:Nat}(hok:d.Ok B)(hB:B≤140737488355328)(hw:WinLe d.R 16 N)(hN:N≤900000000)(hops:d.ops≤90000)(hn:∀d' g,openG d 16 size=(d',.ok g)→(entsG g.segs).length≤50000):
  SP 30 [ptrA xp,.int .i64 tabs,.int .i64 size] [.ob (RDO H xp d),.mem H] (ROpenSQ xp H (openS d tabs size)):=by
 intro W F w hS;apply vc30;unfold Vc30;(try simp only[app]at hS)
 have hR:=hok.rlen
 have hbad:∀{w:World},(tabs<1∨8<tabs)→SL W (.ob (RDO H xp d)::.mem H::F) w→∃post,ROpenSQ xp H (openS d tabs size) (.tuple #[.pointer none,.int .i64 1]) post∧SL W (app post F) w:=λht hS=>by
  rw[show openS d tabs size=(d,.error 1) by unfold openS;rw[if_pos ht]]
  exact⟨_,⟨by decide,H,Heap.le_refl H,rfl,rfl⟩,hS⟩
 refine Gp ?_
 refine zc (λh=>hbad (by omega) hS) (λh1=>?_)
 refine Gp ?_
 refine zc (λh=>hbad (by omega) hS) (λh2=>?_)
 clear hbad
 have ht:¬(tabs<1∨8<tabs):=by omega
 obtain⟨n,rfl⟩:∃n:Nat,tabs=n:=⟨tabs.toNat,by omega⟩
 (refine Cc (ropen_specW H xp d 16 size hok hB hw (by omega) (by omega) (by omega)) ?_;clear hS)
 rintro r post hq w hS
 unfold openS
 rw[if_neg ht]
 unfold ROpenQ at hq
 have hdk:=openG_ok (base:=16) (size:=size) hok
 cases hog:openG d 16 size with
 | mk d' o=>
  rw[hog]at hq hdk
  cases o with
  | error e=>
   obtain⟨he,rfl,H1,h01,rfl⟩:=hq
   (try simp only[app]at hS);refine Gp ?_
   refine zc (λ_=>?_) (λh=>absurd he h)
   exact⟨_,⟨he,H1,h01,rfl,rfl⟩,SL.into hS Xi⟩
  | ok g=>
   obtain⟨lp,H1,h01,rfl,rfl⟩:=hq
   have hG:=openG_GOkW hw (by omega) hog
   have hent:=hn d' g hog
   obtain⟨x1,x2,x3⟩:=loadI_all d'.R n
   (try simp only[app]at hS);refine Gp ?_
   refine zc (λh=>absurd rfl h) (λ_=>?_)
   (refine Cc (newsetR_ok H1 n (by omega) (by omega)) ?_;clear hS)
   rintro _ post ⟨rp,rfl,rfl⟩ w hS
   (try simp only[app]at hS);refine Gp ?_
   refine zQ hS λkp w hS=>?_
   (refine Cc (Yv kp xp lp rp d' H1 (-1,0,List.replicate n []) n List.length_replicate (by omega) hdk hB) ?_;clear hS)
   rintro _ post ⟨H2,h12,rfl⟩ w hS
   (try simp only[app]at hS)
   have hli:load1 d'.R n 1 (load1 d'.R n 0 (-1,0,List.replicate n []))=loadI d'.R n:=rfl
   rw[hli]at hS
   simp only[Int.toNat_natCast]
   generalize loadI d'.R n=x at *
   obtain⟨nw,im,T0⟩:=x
   simp only at x1 x2 x3 hS ⊢
   have h02:=Heap.le_trans h01 h12
   have hcnt:=ents_cnt hG.seq
   have hlow:=lowG_rng hG.ok.segs
   have hhd:=hG.hd
   have hN2:N+100000≤1000000000:=by omega
   have hF:∀{w:World} {H':Heap},(match redoS n im (entsG g.segs) (lowG g.segs) T0 with
     | none=>((d',.error 3):DS × Except Int PSrc)
     | some ts=>if im≤headG g.segs∧lowG g.segs≤im+1 then (d',.ok ⟨g,d',ts,nw,im⟩) else (d',.error 3))=(d',.error 3)→H.le H'→SL W (.ob (RDO H' xp d')::.mem H'::F) w →
     ∃post,ROpenSQ xp H (match redoS n im (entsG g.segs) (lowG g.segs) T0 with
     | none=>((d',.error 3):DS × Except Int PSrc)
     | some ts=>if im≤headG g.segs∧lowG g.segs≤im+1 then (d',.ok ⟨g,d',ts,nw,im⟩) else (d',.error 3)) (.tuple #[.pointer none,.int .i64 3]) post∧SL W (app post F) w:=λhe hh hS=>by
    rw[he]
    exact⟨_,⟨by decide,_,hh,rfl,rfl⟩,hS⟩
   refine⟨λus w=>us=[.bool (decide (headG g.segs<im∨im+1<lowG g.segs))]∧SL W (.pt kp (rscells xp lp rp nw im) 171::.ob (RSetO H2 rp T0)::.ob (RLogO lp xp g)::.ob (RDO H2 xp d')::.mem H2::F) w,?_,?_⟩
   ·refine Gn λw hS=>?_
    refine Cg (zL lp xp g hG.ok (by omega)) λw hS=>?_
    refine zc (λh=>?_) (λh=>?_)
    ·skip
     exact⟨by rw[decide_eq_true (show headG g.segs<im∨im+1<lowG g.segs from .inl (by omega))],SL.into hS Xi⟩
    ·refine Gp ?_
     refine Cg (yz lp xp g hG.ok (by omega)) λw hS=>?_
     refine⟨?_,SL.into hS Xi⟩
     congr 2
     rw[decide_eq_decide];omega
   clear hS
   rintro v11 w ⟨hus,hS⟩
   cases hus
   refine Cg (yz lp xp g hG.ok (by omega)) λw hS=>?_
   have hS:=RSrcO.putN (d:=d') hS Xp
   refine⟨λus w=>∃(i:Nat) (T:Tabs) (H3:Heap),us=[.int .i64 (lowG g.segs+i)]∧i≤(entsG g.segs).length∧redoS n im (entsG g.segs) (lowG g.segs) T0=redoS n im ((entsG g.segs).drop i) (lowG g.segs+i) T∧T.length=n∧(∀C∈T,C.length≤1000+16*i)∧H.le H3∧SL W (.ob (RSrcO kp xp lp rp H3 ⟨g,d',T,nw,im⟩)::.ob (RDO H3 xp d')::.mem H3::F) w,
    λus _=>match us with|[.int _ i]=>(headG g.segs+1-i).toNat|_=>0,⟨0,T0,H2,by simp,by omega,by simp,x1,λC hC=>by have:=(x3 C hC).len;omega,h02,SL.into hS Xi⟩,?_⟩
   clear hS
   rintro v12 w ⟨i,T,H3,hus,hi,hrd,hTl,hTn,hh,hS⟩
   cases hus
   have hS:SL W (.pt kp (rscells xp lp rp nw im) 171::.ob (RSetO H3 rp T)::.ob (RLogO lp xp g)::.ob (RDO H3 xp d')::.mem H3::F) w:=RSrcO.iff.1 hS
   refine Cg (zL lp xp g hG.ok (by omega)) λw hS=>?_
   refine zc (λh=>?_) (λh=>?_)
   ·have hil:i<(entsG g.segs).length:=by omega
    have hread:=hG.seq.read i
    rw[List.getElem?_eq_getElem hil]at hread
    rw[List.drop_eq_getElem_cons hil,redoS_cons]at hrd
    generalize (entsG g.segs)[i]=bs at *
    have hlsn:1≤lowG g.segs+i∧lowG g.segs+i≤1099511627776:=by omega
    generalize hlq:lowG g.segs+i=lsn at *
    have hS:=RSrcO.putN (d:=d') hS Xp
    (refine Cc (ZD kp xp lp rp ⟨g,d',T,nw,im⟩ hG hN2 H3 lsn (by omega)) ?_;clear hS)
    rintro r post hq w hS
    unfold RReadSQ PSrc.readS at hq
    simp only at hq
    rw[hread]at hq
    simp only at hq
    cases hd:decTxn bs with
    | error e=>
     rw[hd]at hq hrd
     obtain⟨hne,H4,h34,rfl,rfl⟩:=hq
     (try simp only[app]at hS)
     have hS:=RDO.monoP h34 hS (xp:=xp) (s:=d') Xr
     unfold encTx zTx
     refine Gm λb w hS=>?_
     refine zc (λ_=>?_) (λh=>absurd hne h)
     exact hF (by rw[hrd]) (Heap.le_trans hh h34) (SL.into hS Xi)
    | ok t=>
     rw[hd]at hq hrd
     obtain⟨xx,H4,h34,rfl,hx,rfl⟩:=hq
     have h04:=Heap.le_trans hh h34
     obtain⟨ht1,ht2,ht3,ht4,ht5,ht6,ht7⟩:=mayTx_all (decTxn_may hd)
     (try simp only[app]at hS)
     have hS:=RDO.monoP h34 hS (xp:=xp) (s:=d') Xr
     refine Gp ?_
     refine zT hS λxb w hS=>?_
     refine yj (vs:=encTx xx) hS Xu rfl rfl (encTx_one1 (lsn:=xx.lsn) (kind:=xx.kind) (mark:=xx.mark) hx.cv.one hx.sv.one) λw hS=>?_
     unfold encTx at hS
     rw[hx.lsn,hx.kind,hx.mark]at hS
     refine Gp ?_
     refine zc (λh=>absurd rfl h) (λ_=>?_)
     refine Gp ?_
     simp only at hrd
     refine zc (λhl=>?_) (λhl=>?_)
     ·rw[if_neg λh=>hl h.1]at hrd
      exact hF (by rw[hrd]) h04 (SL.into hS Xi)
     have hS:=SL.into hS (t:=.pt xb [.int .i64 t.lsn,.int .i64 t.kind,xx.cv,xx.sv,.int .i64 t.mark] 39::.ob (RSrcO kp xp lp rp H4 ⟨g,d',T,nw,im⟩)::.ob (RDO H4 xp d')::.mem H4::F) Xi
     refine⟨λus w=>∃j:Nat,us=[.int .i64 j]∧j≤t.changes.length∧(∀a (h:a<t.changes.length),a<j→t.changes[a].table<(n:Int))∧SL W (.pt xb [.int .i64 t.lsn,.int .i64 t.kind,xx.cv,xx.sv,.int .i64 t.mark] 39::.ob (RSrcO kp xp lp rp H4 ⟨g,d',T,nw,im⟩)::.ob (RDO H4 xp d')::.mem H4::F) w,
      λus _=>match us with|[.int _ i]=>(t.changes.length-i).toNat|_=>0,⟨0,rfl,by omega,λa h ha=>by omega,hS⟩,?_⟩
     clear hS
     rintro v15 w ⟨j,hus,hj,hall,hS⟩
     cases hus
     refine Gp ?_
     refine zm hx.cv ?_
     refine Gp ?_
     refine zc (λhjl=>?_) (λhjl=>?_)
     ·have hjl:j<t.changes.length:=by omega
      refine Gp ?_
      refine zH hS Xh encChg_len hx.cv (x:=t.changes[j]) (List.getElem?_eq_getElem hjl) hjl (i:=0) rfl ?_
      refine Gp ?_
      refine zc (λhe=>?_) (λhe=>?_)
      ·rw[if_neg λh=>by have:=h.2 _ (List.getElem_mem hjl);omega]at hrd
       exact hF (by rw[hrd]) h04 (SL.into hS Xi)
      ·refine Gp ?_
       refine⟨⟨j+1,rfl,by omega,λa ha haj=>?_,SL.into hS Xi⟩,by dsimp only;omega⟩
       by_cases e:a=j
       ·subst e;omega
       ·exact hall a ha (by omega)
     ·have hb:∀c∈t.changes,c.table<(n:Int):=λc hc=>by
       obtain⟨a,ha,rfl⟩:=List.getElem_of_mem hc
       exact hall a ha (by omega)
      have hcin:t.changes.all (chgIn T.length)=true:=List.all_eq_true.2 λc hc=>decide_eq_true ⟨(mayCh_iff.1 (ht6 c hc)).1,by rw[hTl];exact hb c hc⟩
      rw[if_pos (show t.lsn=lsn∧∀c∈t.changes,c.table<(n:Int) from ⟨by omega,hb⟩)]at hrd
      have hlq2:lsn+1=lowG g.segs+((i+1:Nat):Int):=by omega
      rw[hlq2]at hrd
      have hS:SL W (.pt kp (rscells xp lp rp nw im) 171::.ob (RSetO H4 rp T)::.ob (RLogO lp xp g)::_) w:=RSrcO.iff.1 (SL.into hS (t:=.ob (RSrcO kp xp lp rp H4 ⟨g,d',T,nw,im⟩)::.pt xb [.int .i64 t.lsn,.int .i64 t.kind,xx.cv,xx.sv,.int .i64 t.mark] 39::.ob (RDO H4 xp d')::.mem H4::F) Xi)
      refine Gp ?_
      refine zc (λhi2=>?_) (λhi2=>?_)
      ·rw[if_pos (show im<lsn by omega)]at hrd
       refine Gn λw hS=>?_
       (refine Cc (yO H4 rp T xx.cv t.changes hx.cv hTn (by omega)) ?_;clear hS)
       rintro _ post hq2 w hS
       unfold AppQ at hq2
       rw[if_pos hcin]at hq2
       obtain⟨rfl,H5,h45,rfl⟩:=hq2
       (try simp only[app]at hS)
       have hS:=RDO.monoP h45 hS (xp:=xp) (s:=d') Xr
       have hS:=RSrcO.putN (d:=d') hS Xp
       refine Gp ?_
       rw[hlq2]
       refine⟨⟨i+1,appsTs T t.changes,H5,rfl,by omega,hrd,by rw[appsTs_len];exact hTl,λC hC=>?_,Heap.le_trans h04 h45,SL.into hS Xi⟩,by dsimp only;omega⟩
       have:=appsTs_lenR (1000+16*i) (l:=t.changes) hTn (λc hc=>List.all_eq_true.1 hcin c hc) C hC
       omega
      ·rw[if_neg (show ¬im<lsn by omega)]at hrd
       have hS:=RSrcO.putN (d:=d') hS Xp
       refine Gp ?_
       rw[hlq2]
       exact⟨⟨i+1,T,H4,rfl,by omega,hrd,hTl,λC hC=>by have:=hTn C hC;omega,h04,SL.into hS Xi⟩,by dsimp only;omega⟩
   ·obtain rfl:i=(entsG g.segs).length:=by omega
    rw[List.drop_length]at hrd
    have hrd:redoS n im (entsG g.segs) (lowG g.segs) T0=some T:=hrd
    have hS:=RSrcO.putN (d:=d') hS Xp
    refine zc (λhb=>?_) (λhb=>?_)
    ·exact hF (by rw[hrd];simp only;rw[if_neg (by omega)]) hh (SL.into hS Xi)
    ·rw[hrd]
     simp only
     rw[if_pos (show im≤headG g.segs∧lowG g.segs≤im+1 by omega)]
     exact⟨_,⟨kp,lp,rp,H3,hh,rfl,rfl⟩,SL.into hS Xi⟩
theorem eq_row(a b:Row)(w:World):(Op.equal 52 (agg (encRow a)) (agg (encRow b))).run Tryz.prog w= .ok (decide (a=b)) w:=by
 refine run_eqG Tryz.underlying52 (by kernel_rfl) ?_
 obtain⟨k,v⟩:=a
 obtain⟨k',v'⟩:=b
 simp[encRow,Op.eqFields,part,run_equalIn_int (h:=Tryz.underlying2),run_equalIn_int (h:=Tryz.underlying3),run_equalIn_bool' (h:=Tryz.underlying4),run_equalIn_string (h:=Tryz.underlying9),Result.andThen,toList_inj]
 by_cases h0:k=k'<;>by_cases h1:v=v'<;>simp[*]
theorem one_row(a b:Row):SP 80 [agg (encRow a),agg (encRow b)] [] (Gives (.bool (decide (a=b))) []):=by
 intro W F w hS;apply vc80;unfold Vc80;(try simp only[app]at hS)
 refine⟨_,rfl,zT hS ?_⟩
 clear hS;intro b1 w hS
 refine⟨_,rfl,zT hS ?_⟩
 clear hS;intro b2 w hS
 refine yg hS Xh rfl (yg hS Xh rfl (s_eqG (eq_row a b w) ?_))
 (exact⟨_,⟨rfl,rfl⟩,SL.into hS Xi⟩)
theorem plain_row(H:Heap)(u v:Value)(A B:List Row)(hu:RdSl H 2 u A.length (A.map encRow).flatten)(hv:RdSl H 2 v B.length (B.map encRow).flatten)(hn:A.length≤9223372036854775806):
  SP 26 [u,v] [.mem H] (Gives (.bool (decide (A=B))) [.mem H]):=by
 intro W F w hS;apply vc26;unfold Vc26;(try simp only[app]at hS)
 (refine Cc (same_gen encRow_len rfl (λv0 v1 v2 w R h=>vc79 v0 v1 v2 w R h) one_row H u v A B hu hv hn) ?_;clear hS)
 rintro v post ⟨rfl,rfl⟩ w hS
 (try simp only[app]at hS)
 (exact⟨_,⟨rfl,rfl⟩,SL.into hS Xi⟩)
def Rd1(X:Chunk)(v:Value)(n:Nat)(cells:List Value):Prop:=
 ∃a cap,v= .slice a n cap∧∀{W w:World} {l:List Chunk},SL W l w→Has X l→∀j u,j<n→cells[j]?=some u→∃b o,a=some ⟨b,o,none⟩∧w.cell? ⟨b,o+j,none⟩=some u
theorem RdSl.rd1{H:Heap}{v:Value}{n:Nat}{cells:List Value}(h:RdSl H 1 v n cells):Rd1 (.mem H) v n cells:=by
 obtain⟨_,a,cap,rfl,_,h4⟩:=h
 refine⟨a,cap,rfl,λhS hm j u hj hu=>?_⟩
 rcases h4 with rfl|⟨b,o,rfl,h6⟩
 ·omega
 ·exact⟨b,o,rfl,hS.mcell hm (h6 j u hu)⟩
section
variable {W w:World} {l:List Chunk}
theorem qF{X:Chunk}{v:Value}{n:Nat}{cells:List Value}{K:Value→Prop}(h:Rd1 X v n cells)(k:K (.int .i64 n)):zf v K:=by
 obtain⟨a,cap,rfl,_⟩:=h
 exact yh k
theorem Qz{X:Chunk}{v u:Value}{n j:Nat}{k:IntKind}{cells:List Value}{K:Value→Prop}(hS:SL W l w)(hm:Has X l)(h:Rd1 X v n cells)(hj:j<n)(hu:cells[j]?=some u)(hK:K u):
  zh 1 v (.int k (j:Int)) λp=>HLd p w K:=by
 obtain⟨a,cap,rfl,h2⟩:=h
 obtain⟨b,o,rfl,h3⟩:=h2 hS hm j u hj hu
 refine zG hj ⟨_,u,rfl,?_,hK⟩
 rw[Nat.mul_one];exact h3
end
def VcSame1(P:Program)(T:List Bool)(v0:Value)(v1:Value)(v2:Value)(w:World)(R:Value→World→Prop):Prop:=
 zf v0 λv9=>
 zf v1 λv11=>
 za .neq v9 v11 λv12=>
 HIf v12
 (R (.bool false) w)
 (∃(I:List Value→World→Prop) (μ:List Value→World→Nat),I [(.int .i64 0)] w ∧
 ∀(v7:Value) w_1,I [v7] w_1 →
 zf v0 λv15=>
 za .lss v7 v15 λv16=>
 HIf v16
 (zj w_1 λw_2=>
 zh 1 v0 v7 λv22=>
 HLd v22 w_2 λv23=>
 zh 1 v1 v7 λv26=>
 HLd v26 w_2 λv27=>
 yC P T v2 [v23,v27] w_2 λv28 w_3=>
 zr v28 λv29=>
 HIf v29
 (R (.bool false) w_3)
 (za .add v7 (.int .i64 1) λv18=>
 I [v18] w_3∧μ [v18] w_3<μ [v7] w_1))
 (R (.bool true) w_1))
theorem same1_gen{P:Program}{T:List Bool}{f g:FuncId}{α:Type}[DecidableEq α]{val:α→Value}(hT:T.getD g false=true)
  (vc:∀v0 v1 v2 w R,VcSame1 P T v0 v1 v2 w R→zR P f [v0,v1,v2] w R) (one:∀a b,Spec P g [val a,val b] [] (Gives (.bool (decide (a=b))) []))
  (pre:List Chunk) (X Y:Chunk) (hX:∀F,Has X (app pre F)) (hY:∀F,Has Y (app pre F)) (u v:Value) (A B:List α) (hu:Rd1 X u A.length (A.map val)) (hv:Rd1 Y v B.length (B.map val)) (hA:A.length≤9223372036854775806) :
  Spec P f [u,v,.func (.func g) #[] #[]] pre (Gives (.bool (decide (A=B))) pre):=by
 intro W F w hS;apply vc;unfold VcSame1
 refine qF hu (qF hv ?_)
 refine Gp ?_
 refine zc (λh=>?_) (λh=>?_)
 ·have:A≠B:=λe=>by subst e;exact h rfl
  simp only[this,decide_false]
  exact⟨_,⟨rfl,rfl⟩,hS⟩
 ·have hl:A.length=B.length:=by omega
  refine⟨λvs w=>∃k:Nat,vs=[.int .i64 k]∧k≤A.length∧A.take k=B.take k∧SL W (app pre F) w,λvs _=>match vs with|[.int _ k]=>(A.length-k).toNat|_=>0,⟨0,rfl,by omega,rfl,hS⟩,?_⟩
  clear hS
  rintro v7 w ⟨k,hv7,hk,htk,hS⟩
  cases hv7
  refine qF hu ?_
  refine Gp ?_
  refine zc (λh=>?_) (λh=>?_)
  ·have hk1:k<A.length:=by omega
   have hk2:k<B.length:=by omega
   refine yu hS ?_
   clear hS;intro w hS
   refine Qz hS (hX F) hu hk1 (u:=val A[k]) (by simp[hk1]) ?_
   refine Qz hS (hY F) hv hk2 (u:=val B[k]) (by simp[hk2]) ?_
   refine qO (args':=[val A[k],val B[k]]) hT (one A[k] B[k]) rfl hS .nil ?_
   clear hS
   rintro v post ⟨rfl,rfl⟩ w hS
   have hS:SL W (app pre F) w:=hS
   refine Gp ?_
   refine zD (λhe=>?_) (λhe=>?_)
   ·have:A≠B:=λe=>by subst e;simp at he
    simp only[this,decide_false]
    exact⟨_,⟨rfl,rfl⟩,hS⟩
   ·have he':=of_decide_eq_true he
    refine Gp ?_
    refine⟨⟨k+1,by simp,by omega,?_,hS⟩,by dsimp only;omega⟩
    rw[List.take_succ_eq_append_getElem hk1,List.take_succ_eq_append_getElem hk2,htk,he']
  ·have:k=A.length:=by omega
   subst this
   have:A=B:=by rw[List.take_length,hl,List.take_length]at htk;exact htk
   simp only[this,decide_true]
   exact⟨_,⟨rfl,rfl⟩,hS⟩
theorem eq_chg(a b:Chg)(w:World):(Op.equal 82 (agg (encChg a)) (agg (encChg b))).run Tryz.prog w= .ok (decide (a=b)) w:=by
 refine run_eqG Tryz.underlying82 (by kernel_rfl) ?_
 obtain⟨a1,a2,a3,a4⟩:=a
 obtain⟨b1,b2,b3,b4⟩:=b
 simp[encChg,Op.eqFields,part,run_equalIn_int (h:=Tryz.underlying2),run_equalIn_int (h:=Tryz.underlying3),run_equalIn_bool' (h:=Tryz.underlying4),run_equalIn_string (h:=Tryz.underlying9),Result.andThen,toList_inj]
 by_cases h0:a1=b1<;>by_cases h1:a2=b2<;>by_cases h2:a3=b3<;>by_cases h3:a4=b4<;>simp[*]
theorem one_chg(a b:Chg):SP 165 [agg (encChg a),agg (encChg b)] [] (Gives (.bool (decide (a=b))) []):=by
 intro W F w hS;apply vc165;unfold Vc165;(try simp only[app]at hS)
 refine zQ hS λb1 w hS=>?_
 refine zQ hS λb2 w hS=>?_
 refine yg hS Xh rfl (yg hS Xh rfl (s_eqG (eq_chg a b w) ?_))
 (exact⟨_,⟨rfl,rfl⟩,SL.into hS Xi⟩)
theorem plain_chg(H:Heap)(u v:Value)(A B:List Chg)(hu:RdSl H 4 u A.length (A.map encChg).flatten)(hv:RdSl H 4 v B.length (B.map encChg).flatten)(hn:A.length≤9223372036854775806):
  SP 73 [u,v] [.mem H] (Gives (.bool (decide (A=B))) [.mem H]):=by
 intro W F w hS;apply vc73;unfold Vc73;(try simp only[app]at hS)
 (refine Cc (same_gen encChg_len rfl (λv0 v1 v2 w R h=>vc164 v0 v1 v2 w R h) one_chg H u v A B hu hv hn) ?_;clear hS)
 rintro v post ⟨rfl,rfl⟩ w hS
 (try simp only[app]at hS)
 (exact⟨_,⟨rfl,rfl⟩,SL.into hS Xi⟩)
theorem one_str(a b:ByteArray):SP 167 [.string a,.string b] [] (Gives (.bool (decide (a=b))) []):=by
 intro W F w hS;apply vc167;unfold Vc167;(try simp only[app]at hS)
 refine Gp ?_
 (exact⟨_,⟨rfl,rfl⟩,SL.into hS Xi⟩)
theorem plain_str(H:Heap)(u v:Value)(A B:List ByteArray)(hu:RdSl H 1 u A.length (A.map Value.string))(hv:RdSl H 1 v B.length (B.map Value.string))(hn:A.length≤9223372036854775806):
  SP 74 [u,v] [.mem H] (Gives (.bool (decide (A=B))) [.mem H]):=by
 intro W F w hS;apply vc74;unfold Vc74;(try simp only[app]at hS)
 (refine Cc (same1_gen rfl (λv0 v1 v2 w R h=>vc166 v0 v1 v2 w R h) one_str [.mem H] (.mem H) (.mem H) (λ_=>.hd) (λ_=>.hd) u v A B hu.rd1 hv.rd1 hn) ?_;clear hS)
 rintro v post ⟨rfl,rfl⟩ w hS
 (try simp only[app]at hS)
 (exact⟨_,⟨rfl,rfl⟩,SL.into hS Xi⟩)
theorem txn_same(H:Heap)(x y:TxV)(t:TxnD)(hx:TxIs H x t)(hy:TxIs H y t)(h1:t.changes.length≤9223372036854775806)(h2:t.signals.length≤9223372036854775806):
  SP 24 [agg (encTx x),agg (encTx y)] [.mem H] (Gives (.bool true) [.mem H]):=by
 intro W F w hS;apply vc24;unfold Vc24;(try simp only[app]at hS)
 refine zQ hS λb1 w hS=>?_
 refine zQ hS λb2 w hS=>?_
 unfold encTx at hS
 rw[hx.lsn,hx.kind,hx.mark,hy.lsn,hy.kind,hy.mark]at hS
 refine Gp ?_
 refine zc (λ_=>?_) (λh=>absurd rfl h)
 refine Gp ?_
 refine zc (λ_=>?_) (λh=>absurd rfl h)
 refine Gp ?_
 refine zc (λ_=>?_) (λh=>absurd rfl h)
 refine Gp ?_
 refine Cg (plain_chg H x.cv y.cv t.changes t.changes hx.cv hy.cv h1) λw hS=>?_
 refine zc (λ_=>?_) (λh=>absurd rfl h)
 refine Gp ?_
 refine Cg (plain_str H x.sv y.sv t.signals t.signals hx.sv hy.sv h2) λw hS=>?_
 rw[decide_eq_true rfl]
 (exact⟨_,⟨rfl,rfl⟩,SL.into hS Xi⟩)
def awC:Chg:=⟨0,5,false,⟨#[97]⟩⟩
theorem awC_may:mayTx ⟨1,1,[awC],[],0⟩=true:=mayTx_iff.2 ⟨by decide,.inl ⟨rfl,rfl,by decide,by decide,λc hc=>by rw[List.mem_singleton.1 hc];exact mayCh_iff.2 ⟨by decide,by decide,by decide,by decide,by decide,by decide⟩,by simp⟩⟩
theorem awC_few:Few 1 ([]++[(⟨(([]:List TxnD).length:Int)+1,1,[awC],[],0⟩:TxnD)]):=(Few.nil 1).app (by exact awC_may) rfl (λc hc=>by rw[List.mem_singleton.1 hc];decide) (by decide) (by decide)
theorem Yr:SP 14 [] [] (Gives (.bool true) []):=by
 intro W F w hS;apply vc14;unfold Vc14;(try simp only[app]at hS)
 have hS:=SL.memNil hS
 obtain⟨e1,hL⟩:=sopen00 (n:=1) (by decide) (by decide) (size:=64) (by decide) (by decide)
 have hk:=sok00 (n:=1) (by decide) (by decide) (size:=64) (by decide) (by decide)
 (refine Cc (Yg) ?_;clear hS)
 rintro v post ⟨dp,rfl,rfl⟩ w hS
 (try simp only[app]at hS)
 (refine Cc (Z1 Heap.emp dp s00 1 64 (s00_ok 0) (by decide) (by decide) (λd' g h=>by rw[open00 (by decide) (by decide) (by decide) (by decide)]at h;cases h;decide)) ?_;clear hS)
 rintro r post hq w hS
 have e1:openS s00 1 64=(s00,.ok (k00 1 64)):=e1
 rw[e1]at hq
 obtain⟨sp,tp,lp,H1,h01,rfl,rfl⟩:=hq
 (try simp only[app]at hS)
 have hd0:(k00 1 64).d=s00:=rfl
 have hS:SL W (.ob (SrcO sp tp dp lp (k00 1 64))::.ob (DskO dp (k00 1 64).d)::_) _:=hS
 refine Gp ?_
 refine zo ?_
 refine Gp ?_
 refine zo ?_
 refine Gp ?_
 refine zc (λh=>absurd rfl h) (λ_=>?_)
 refine Gp ?_
 refine zx hS (cells:=encChg awC) (by simp[fillL,zrow,Value.cells,encChg,awC]) λb w hS=>?_
 obtain⟨H2,h12,hR,hS⟩:=SL.rdNew (sz:=4) (H:=H1) hS Xp rfl
 (refine Cc (Zo sp tp dp lp (k00 1 64) H2 (.slice none 0 0) (.slice (some ⟨b,0,none⟩) 1 1) [] [awC] (RdSl.nil _ _) hR (by decide) hk (by decide) (by decide)) ?_;clear hS)
 rintro r post ⟨rfl,rfl⟩ w hS
 have hk1:=hk.commit [] [awC]
 rcases hL.commit rfl (by decide) (by decide) awC_may (λc hc=>by rw[List.mem_singleton.1 hc];decide) awC_few.fits (by simp[k00]) with ⟨k1,d1,e,hL1,ho1,ha1,hL1arm,hops1,-,hfull1⟩|⟨_,_,_,_,h0,_⟩
 ·rw[e]at hS hk1 ⊢
  simp only at hk1 ⊢
  (try simp only[app]at hS);refine Gp ?_
  have hrd:=hL1.read awC_few.ok.may (j:=0) (Nat.le_refl _) (by decide)
  have hg1:=hk1.g
  (refine Cc (Zg sp tp dp lp k1 hg1 (by decide) H2 1 (by decide)) ?_;clear hS)
  rintro r post hq w hS
  unfold ReadSQ at hq
  rw[show (1:Int)=((0:Nat):Int)+1 from rfl,hrd]at hq
  obtain⟨x,H3,h23,rfl,hx,rfl⟩:=hq
  (try simp only[app]at hS)
  refine Gp ?_
  refine zT hS λxb w hS=>?_
  refine yj (vs:=encTx x) hS Xu rfl rfl (encTx_one1 (lsn:=x.lsn) (kind:=x.kind) (mark:=x.mark) hx.cv.one hx.sv.one) λw hS=>?_
  unfold encTx at hS
  have hkd:=hx.kind
  have hcv:=hx.cv
  rw[hkd]at hS
  refine Gp ?_
  refine zc (λ_=>?_) (λh=>absurd rfl h)
  refine Gp ?_
  refine zc (λ_=>?_) (λh=>absurd rfl h)
  refine Gp ?_
  refine zc (λ_=>?_) (λh=>absurd rfl h)
  refine Gp ?_
  refine zc (λ_=>?_) (λh=>absurd rfl h)
  refine Gp ?_
  refine zm hcv ?_
  refine Gp ?_
  refine zc (λ_=>?_) (λh=>absurd rfl h)
  have hsl:=hL1.segs
  have hops1:k1.d.ops≤2:=hops1
  (refine Cc (qJ sp tp dp lp k1 H3 1 hk1 (by decide) (by simp at hsl;omega)) ?_;clear hS)
  rintro v post ⟨rfl,H4,h34,rfl⟩ w hS
  rcases hL1.trim ho1 ha1 (by decide) (awC_few.imgs (by decide) (by decide)) hfull1 (lsn:=1) (by decide) with ⟨k2,I2,d2,f2,lo2,m2,e2,hm2,hL2,_⟩|⟨_,_,_,_,_,_,_,_,_,_,_,_,_,h0,_⟩
  ·have e2:k1.trimS 1=(k2,0):=e2
   rw[e2]at hS ⊢
   simp only at hS ⊢
   (try simp only[app]at hS);refine Gp ?_
   refine zc (λ_=>?_) (λh=>absurd rfl h)
   refine Cg (ZF sp tp dp lp k2) λw hS=>?_
   have hmm:=hL2.img.le
   have him:=hL2.image
   have hm1:([]++[(⟨(([]:List TxnD).length:Int)+1,1,[awC],[],0⟩:TxnD)]).length=1:=rfl
   rw[hm1]at hmm
   refine zc (λ_=>?_) (λh=>by omega)
   have hS:=SrcO.iff.1 hS
   refine Gp ?_
   refine Cg (zV tp k2.ts) λw hS=>?_
   rw[hL2.ts,tabsN_len,decide_eq_true (by decide)]
   exact⟨_,⟨rfl,rfl⟩,SL.into hS Xi⟩
  ·exact absurd (hL1arm rfl) h0
 ·exact absurd rfl h0
theorem Zi(H:Heap)(dp xp:Nat)(s:DS)(N:Nat)(hok:s.Ok N)(hN:N≤140737488355328)(hR:s.R.length≤100000):
  SP 36 [.pointer (some ⟨dp,0,none⟩),.pointer (some ⟨xp,0,none⟩)] [.ob (DskO dp s),.ob (RDO H xp s),.mem H] (λv post=>v= .bool true∧∃H',H.le H'∧post=[.ob (DskO dp s),.ob (RDO H' xp s),.mem H']):=by
 intro W F w hS;apply vc36;unfold Vc36;(try simp only[app]at hS)
 (refine Cc (ZB dp s N hok hR) ?_;clear hS)
 rintro fl post rfl w hS
 (try simp only[app]at hS)
 obtain⟨fv,ys,⟨he,hrb⟩,hS⟩:=RDO.iff.1 (SL.into hS (t:=.ob (RDO H xp s)::.ob (DskO dp s)::.ob (OwnSl fl 3 1 s.R.length (s.R.map λx=>.int .i64 x.id))::.mem H::F) Xi)
 have hyl:ys.length=s.R.length:=by rw[← he,List.length_map]
 refine Gn λw hS=>?_
 refine zt hS (v:=fl) (t:=3) (sz:=1) (n:=s.R.length) (cells:=s.R.map λx=>.int .i64 x.id) Xh ?_
 refine Gp ?_
 refine zt hS (v:=fv) (t:=186) (sz:=3) (n:=ys.length) (cells:=(ys.map encRF).flatten) Xh ?_
 refine Gp ?_
 refine zc (λh=>absurd (by omega) h) (λ_=>?_)
 refine Gp ?_
 refine Cg (yk dp s) λw hS=>?_
 refine zc (λh=>absurd rfl h) (λ_=>?_)
 refine Gp ?_
 refine Cg (q7 dp s) λw hS=>?_
 refine zc (λh=>absurd rfl h) (λ_=>?_)
 refine⟨λus w=>∃(i:Nat) (H2:Heap),us=[.int .i64 i]∧i≤s.R.length∧H.le H2∧SL W (.ob (DskO dp s)::.pt xp (rcells fv s) 66::.ob (FilesO fv ys)::.ob (OwnSl fl 3 1 s.R.length (s.R.map λx=>.int .i64 x.id))::.mem H2::F) w,
  λus _=>match us with|[.int _ i]=>(s.R.length-i).toNat|_=>0,⟨0,H,rfl,by omega,Heap.le_refl H,SL.into hS Xi⟩,?_⟩
 clear hS
 rintro v6 w ⟨i,H2,hus,hi,h02,hS⟩
 cases hus
 refine zt hS (v:=fl) (t:=3) (sz:=1) (n:=s.R.length) (cells:=s.R.map λx=>.int .i64 x.id) Xh ?_
 refine Gp ?_
 refine zc (λh=>?_) (λh=>?_)
 ·have hil:i<s.R.length:=by omega
  have hiy:i<ys.length:=by omega
  have hg:getK PF.id s.R s.R[i].id=some s.R[i]:=getK_of hok.sorted (List.getElem_mem hil)
  have hy1:ys[i].1=s.R[i]:=by
   have h1:(ys.map Prod.fst)[i]?=s.R[i]?:=by rw[he]
   rw[List.getElem?_map,List.getElem?_eq_getElem hiy,List.getElem?_eq_getElem hil]at h1
   simpa using h1
  have hx:ys[i]?=some ys[i]:=List.getElem?_eq_getElem hiy
  have hold:=(hrb _ (List.getElem_mem hiy)).mono h02
  have hu:(s.R.map λx=>Value.int .i64 x.id)[i]?=some (.int .i64 s.R[i].id):=by simp[hil]
  have hye:encRF ys[i]=[.int .i64 s.R[i].id,.int .i64 (s.R[i].safe:Int),ys[i].2]:=by unfold encRF;rw[hy1]
  rw[hy1]at hold
  generalize ys[i]=y at *
  generalize s.R[i]=f at *
  refine zM hS (v:=fl) (t:=3) Xh hil hu ?_
  (refine Cc (Ze dp s N hok hN f.id) ?_;clear hS)
  rintro v post hq w hS
  unfold ReadQ at hq
  rw[hg]at hq
  obtain⟨u,rfl,rfl⟩:=hq
  (try simp only[app]at hS)
  obtain⟨H3,h23,hR3,hS⟩:=zz (H:=H2) (v:=u) (n:=f.b.length) (sz:=1) (t:=5) (cells:=f.b.map u8c) hS Xp
  refine Gn λw hS=>?_
  refine zo ?_
  refine zM hS (v:=fl) (t:=3) Xh hil hu ?_
  refine Gp ?_
  refine zA (i:=0) hS (v:=fv) (t:=186) Xh encRF_len hx hiy (u:=.int .i64 f.id) (by rw[hye];rfl) ?_
  refine Gp ?_
  refine zc (λh=>absurd rfl h) (λ_=>?_)
  refine Gp ?_
  refine zA (i:=2) hS (v:=fv) (t:=186) Xh encRF_len hx hiy (u:=y.2) (by rw[hye];rfl) ?_
  refine Cg (YK (.mem H3) u y.2 f.b f.b (Rdb.rd hR3) (Rdb.rd (hold.mono h23))) λw hS=>?_
  rw[decide_eq_true rfl]
  refine zo ?_
  refine zM hS (v:=fl) (t:=3) Xh hil hu ?_
  refine Gp ?_
  obtain⟨fa,fc,rfl,_,hfx⟩:=OwnSl.at hS (v:=fv) (t:=186) (sz:=3) (n:=ys.length) (cells:=(ys.map encRF).flatten) Xh
  obtain⟨fb,rfl,_⟩:=hfx i hiy
  have hcell:((ys.map encRF).flatten)[0+i*3+1]?=some (.int .i64 (f.safe:Int)):=by
   have:=flat_at encRF_len ys i 1 y (.int .i64 (f.safe:Int)) hx (by rw[hye];rfl)
   rwa [Nat.zero_add]
  refine zG hiy (zO ?_)
  refine ZX hS (t:=186) (sz:=3) (cells:=(ys.map encRF).flatten) Xh (by omega) hcell ?_
  refine Cg (YG dp s f.id) λw hS=>?_
  have hl2:safeF s.R f.id=f.safe:=by unfold safeF;rw[hg]
  rw[hl2]
  refine ZX hS (t:=186) (sz:=3) (cells:=(ys.map encRF).flatten) Xh (by omega) hcell ?_
  refine Gp ?_
  refine zc (λh=>absurd rfl h) (λ_=>?_)
  refine Gp ?_
  exact⟨⟨i+1,H3,by simp,by omega,Heap.le_trans h02 h23,SL.into hS Xi⟩,by dsimp only;omega⟩
 ·have hS:=(RDO.iff (H:=H2) (xp:=xp) (s:=s)).2 ⟨fv,ys,⟨he,hrb.mono h02⟩,SL.into hS (t:=.pt xp (rcells fv s) 66::.ob (FilesO fv ys)::.ob (DskO dp s)::.mem H2::F) Xi⟩
  exact⟨_,⟨rfl,H2,h02,rfl⟩,SL.into hS Xi⟩
def rdT(y:Except Int TxnD):TxnD:=match y with
 | .error _=>⟨0,0,[],[],0⟩
 | .ok t=>t
def rdE(y:Except Int TxnD):Int:=match y with
 | .error e=>e
 | .ok _=>0
theorem zTx_is(H:Heap):TxIs H zTx ⟨0,0,[],[],0⟩:=⟨rfl,rfl,rfl,RdSl.nil _ _,RdSl.nil _ _⟩
theorem ReadSQ.all{sp tp dp lp:Nat}{k:PSrc}{H:Heap}{lsn:Int}{r:Value}{post:List Chunk}(h:ReadSQ sp tp dp lp k H lsn r post):∃x H',H.le H'∧r= .tuple #[agg (encTx x),.int .i64 (rdE (k.readS lsn))]∧TxIs H' x (rdT (k.readS lsn))∧post=[.ob (SrcO sp tp dp lp k),.mem H']:=by
 unfold ReadSQ at h
 cases hr:k.readS lsn with
 | error e=>
  rw[hr]at h
  obtain⟨_,H',hh,rfl,rfl⟩:=h
  exact⟨zTx,H',hh,rfl,zTx_is H',rfl⟩
 | ok t=>
  rw[hr]at h
  obtain⟨x,H',hh,rfl,hx,rfl⟩:=h
  exact⟨x,H',hh,rfl,hx,rfl⟩
theorem RReadSQ.all{kp xp lp rp:Nat}{k:PSrc}{H:Heap}{lsn:Int}{r:Value}{post:List Chunk}(h:RReadSQ kp xp lp rp k H lsn r post):∃x H',H.le H'∧r= .tuple #[agg (encTx x),.int .i64 (rdE (k.readS lsn))]∧TxIs H' x (rdT (k.readS lsn))∧post=[.ob (RSrcO kp xp lp rp H' k),.mem H']:=by
 unfold RReadSQ at h
 cases hr:k.readS lsn with
 | error e=>
  rw[hr]at h
  obtain⟨_,H',hh,rfl,rfl⟩:=h
  exact⟨zTx,H',hh,rfl,zTx_is H',rfl⟩
 | ok t=>
  rw[hr]at h
  obtain⟨x,H',hh,rfl,hx,rfl⟩:=h
  exact⟨x,H',hh,rfl,hx,rfl⟩
theorem rdT_len(k:PSrc)(lsn:Int):(rdT (k.readS lsn)).changes.length≤16∧(rdT (k.readS lsn)).signals.length≤2:=by
 cases hr:k.readS lsn with
 | error e=>exact⟨Nat.zero_le _,Nat.zero_le _⟩
 | ok t=>
  unfold PSrc.readS at hr
  split at hr
  ·cases hr
  ·have:=mayTx_all (decTxn_may hr)
   exact⟨this.2.2.2.1,this.2.2.2.2.1⟩
theorem Yp(sp tp dp lp kp xp rlp rp:Nat)(H:Heap)(k:PSrc){N:Nat}(hg:GOk k.g N)(hN:N≤1000000000)(hs:∀C∈k.ts,SortedR C)(hn:∀C∈k.ts,C.length≤1000000):
  SP 37 [ptrA sp,ptrA kp] [.ob (SrcO sp tp dp lp k),.ob (RSrcO kp xp rlp rp H k),.mem H] (λv post=>v= .bool true∧∃H',H.le H'∧post=[.ob (SrcO sp tp dp lp k),.ob (RSrcO kp xp rlp rp H' k),.mem H']):=by
 intro W F w hS;apply vc37;unfold Vc37;(try simp only[app]at hS)
 have hlow:=lowG_rng hg.ok.segs
 have hd0:=headG_ge hg.ok.segs
 have hhd:=hg.hd
 have hS:=RSrcO.iff.1 (SL.into hS (t:=.ob (RSrcO kp xp rlp rp H k)::.ob (SrcO sp tp dp lp k)::.mem H::F) Xi)
 refine Gn λw hS=>?_
 refine Cg (zU sp tp dp lp k hg hN) λw hS=>?_
 refine Cg (zL rlp xp k.g hg.ok (by omega)) λw hS=>?_
 refine zc (λh=>absurd rfl h) (λ_=>?_)
 refine Gp ?_
 refine Cg (Zz sp tp dp lp k hg hN) λw hS=>?_
 refine Cg (yz rlp xp k.g hg.ok (by omega)) λw hS=>?_
 refine zc (λh=>absurd rfl h) (λ_=>?_)
 refine Gp ?_
 refine Cg (ZF sp tp dp lp k) λw hS=>?_
 refine zc (λh=>absurd rfl h) (λ_=>?_)
 have hS:=SrcO.iff.1 (SL.into hS (t:=.ob (SrcO sp tp dp lp k)::.pt kp (rscells xp rlp rp k.newest k.image) 171::.ob (RSetO H rp k.ts)::.ob (RLogO rlp xp k.g)::.mem H::F) Xi)
 obtain⟨sv,vs,hR,hS⟩:=RSetO.iff.1 (SL.into hS (t:=.ob (RSetO H rp k.ts)::.pt kp (rscells xp rlp rp k.newest k.image) 171::.ob (RLogO rlp xp k.g)::.pt sp (scells tp dp lp k.newest k.image) 58::.ob (TabO tp k.ts)::.ob (LogO lp dp k.g)::.mem H::F) Xi)
 have h8:=hR.2
 refine Gp ?_
 refine zt hS (v:=sv) (t:=53) (sz:=1) (n:=k.ts.length) (cells:=vs) Xh ?_
 refine Cg (zV tp k.ts) λw hS=>?_
 refine zc (λh=>absurd rfl h) (λ_=>?_)
 refine Gp ?_
 refine Cg (yz rlp xp k.g hg.ok (by omega)) λw hS=>?_
 have hS:=RSetO.put k.ts hR.1 hR.2 hS (r:=rp) Xp
 have hS:=RSrcO.put k hS (kp:=kp) (rp:=rp) Xp
 have hS:=SrcO.put k hS (sp:=sp) Xp
 refine⟨λus w=>∃(i:Int) (H2:Heap),us=[.int .i64 i]∧lowG k.g.segs-1≤i∧i≤headG k.g.segs+2∧H.le H2∧SL W (.ob (SrcO sp tp dp lp k)::.ob (RSrcO kp xp rlp rp H2 k)::.mem H2::F) w,
  λus _=>match us with|[.int _ i]=>(headG k.g.segs+2-i).toNat|_=>0,⟨_,H,rfl,Int.le_refl _,by have:=ents_cnt hg.seq;omega,Heap.le_refl H,SL.into hS Xi⟩,?_⟩
 clear hS hR
 rintro v5 w ⟨i,H2,hus,hi1,hi2,hh,hS⟩
 cases hus
 have hS:=RSrcO.iff.1 (SL.into hS (t:=.ob (RSrcO kp xp rlp rp H2 k)::.ob (SrcO sp tp dp lp k)::.mem H2::F) Xi)
 refine Gp ?_
 refine Cg (zL rlp xp k.g hg.ok (by omega)) λw hS=>?_
 refine zc (λh=>?_) (λh=>?_)
 ·have hS:=RSrcO.put k hS Xp
  have hrl:=rdT_len k i
  (refine Cc (Zg sp tp dp lp k hg hN H2 i (by omega)) ?_;clear hS)
  rintro r post hq w hS
  obtain⟨x1,H3,h23,rfl,hx1,rfl⟩:=hq.all
  clear hq
  (try simp only[app]at hS)
  have hS:=RSrcO.monoP (k:=k) h23 hS Xr
  have o1:=encTx_one1 (lsn:=x1.lsn) (kind:=x1.kind) (mark:=x1.mark) hx1.cv.one hx1.sv.one
  refine Gp ?_
  refine zT hS λb1 w hS=>?_
  refine yj (vs:=encTx x1) hS Xu rfl rfl o1 λw hS=>?_
  (refine Cc (ZD kp xp rlp rp k hg hN H3 i (by omega)) ?_;clear hS)
  rintro r post hq w hS
  obtain⟨x2,H4,h34,rfl,hx2,rfl⟩:=hq.all
  clear hq
  (try simp only[app]at hS)
  have o2:=encTx_one1 (lsn:=x2.lsn) (kind:=x2.kind) (mark:=x2.mark) hx2.cv.one hx2.sv.one
  refine Gp ?_
  refine zT hS λb2 w hS=>?_
  refine yj (vs:=encTx x2) hS Xu rfl rfl o2 λw hS=>?_
  refine Gp ?_
  refine zc (λh=>absurd rfl h) (λ_=>?_)
  refine yg hS Xh rfl ?_
  refine yg hS Xh rfl ?_
  refine Cg (txn_same H4 x1 x2 (rdT (k.readS i)) (hx1.mono h34) hx2 (by omega) (by omega)) λw hS=>?_
  refine zo ?_
  refine Gp ?_
  exact⟨⟨i+1,H4,rfl,by omega,by omega,Heap.le_trans hh (Heap.le_trans h23 h34),SL.into hS Xi⟩,by dsimp only;omega⟩
 ·have hS:=RSrcO.put k hS Xp
  refine⟨λus w=>∃(t:Int) (H3:Heap),us=[.int .i64 t]∧-1≤t∧t≤(k.ts.length:Int)+1∧H.le H3∧SL W (.ob (SrcO sp tp dp lp k)::.ob (RSrcO kp xp rlp rp H3 k)::.mem H3::F) w,
   λus _=>match us with|[.int _ i]=>((k.ts.length:Int)+1-i).toNat|_=>0,⟨-1,H2,rfl,by omega,by omega,hh,SL.into hS Xi⟩,?_⟩
  clear hS h hi1 hi2
  rintro v10 w ⟨t,H3,hus,ht1,ht2,hh3,hS⟩
  cases hus
  have hS:=RSrcO.iff.1 (SL.into hS (t:=.ob (RSrcO kp xp rlp rp H3 k)::.ob (SrcO sp tp dp lp k)::.mem H3::F) Xi)
  obtain⟨sv,vs,hR,hS⟩:=RSetO.iff.1 (SL.into hS (t:=.ob (RSetO H3 rp k.ts)::.pt kp (rscells xp rlp rp k.newest k.image) 171::.ob (RLogO rlp xp k.g)::.ob (SrcO sp tp dp lp k)::.mem H3::F) Xi)
  refine Gp ?_
  refine zt hS (v:=sv) (t:=53) (sz:=1) (n:=k.ts.length) (cells:=vs) Xh ?_
  refine Gp ?_
  have hS:=RSetO.put k.ts hR.1 hR.2 hS (r:=rp) Xp
  refine zc (λh=>?_) (λh=>?_)
  ·have hl:(tabAt k.ts t).length≤1000000:=by
    unfold tabAt
    split
    ·simp
    ·cases h:k.ts[t.toNat]? with
     | none=>simp
     | some C=>exact hn C (List.mem_of_getElem? h)
   have hcl:(k.chunkS t 3 2).length≤2:=by
    unfold PSrc.chunkS afterR
    rw[List.length_take];omega
   have hS:=SrcO.iff.1 (SL.into hS (t:=.ob (SrcO sp tp dp lp k)::.pt kp (rscells xp rlp rp k.newest k.image) 171::.ob (RSetO H3 rp k.ts)::.ob (RLogO rlp xp k.g)::.mem H3::F) Xi)
   refine Gn λw hS=>?_
   (refine Cc (Z3 tp k.ts t hn) ?_;clear hS)
   rintro u1 post rfl w hS
   (try simp only[app]at hS);refine Gp ?_
   (refine Cc (ZU H3 rp k.ts t hn) ?_;clear hS)
   rintro u2 post rfl w hS
   (try simp only[app]at hS)
   obtain⟨H4,h34,hv1,hS⟩:=zz (H:=H3) (v:=u1) hS Xp
   obtain⟨H5,h45,hv2,hS⟩:=zz (H:=H4) (v:=u2) hS Xp
   have hS:=RSetO.monoP (Heap.le_trans h34 h45) hS (r:=rp) (ts:=k.ts) Xr
   have hS:=RSrcO.put k hS (kp:=kp) (rp:=rp) Xp
   have hS:=SrcO.put k hS (sp:=sp) Xp
   refine Cg (plain_row H5 u1 u2 _ _ (hv1.mono h45) hv2 (by omega)) λw hS=>?_
   rw[decide_eq_true rfl]
   refine zo ?_
   (refine Cc (qb sp tp dp lp k t 3 2 hn hs (by decide) (by decide)) ?_;clear hS)
   rintro u3 post rfl w hS
   (try simp only[app]at hS)
   (refine Cc (Yx kp xp rlp rp k H5 t 3 2 hn) ?_;clear hS)
   rintro u4 post ⟨H6,h56,rfl⟩ w hS
   (try simp only[app]at hS)
   obtain⟨H7,h67,hv3,hS⟩:=zz (H:=H6) (v:=u3) hS Xp
   obtain⟨H8,h78,hv4,hS⟩:=zz (H:=H7) (v:=u4) hS Xp
   have hS:=RSrcO.monoP (k:=k) (Heap.le_trans h67 h78) hS Xr
   refine Cg (plain_row H8 u3 u4 _ _ (hv3.mono h78) hv4 (by omega)) λw hS=>?_
   rw[decide_eq_true (show k.chunkS t 3 2=k.chunkS t 3 ((2:Nat):Int) from rfl)]
   refine zo ?_
   refine Gp ?_
   exact⟨⟨t+1,H8,rfl,by omega,by omega,Heap.le_trans hh3 (Heap.le_trans h34 (Heap.le_trans h45 (Heap.le_trans h56 (Heap.le_trans h67 h78)))),SL.into hS Xi⟩,by dsimp only;omega⟩
  ·have hS:=RSrcO.put k hS (kp:=kp) (rp:=rp) Xp
   exact⟨_,⟨rfl,H3,hh3,rfl⟩,SL.into hS Xi⟩
def cutOf(s:ByteArray)(n:Nat):ByteArray:=s.extract 0 (min s.size n)
theorem YM(s:ByteArray)(n:Nat):SP 143 [.string s,.int .i64 n] [] (Gives (.string (cutOf s n)) []):=by
 intro W F w hS;apply vc143;unfold Vc143;(try simp only[app]at hS)
 refine Gp ?_
 rw[show min (s.size:Int) (n:Int)=((min s.size n:Nat):Int) by omega]
 refine⟨s,0,min s.size n,rfl,⟨.i64,rfl⟩,rfl,Nat.zero_le _,Nat.min_le_left _ _,?_⟩
 (exact⟨_,⟨rfl,rfl⟩,SL.into hS Xi⟩)
def chOf(c:Chg)(k:Nat):Chg:=⟨md c.table k,if md c.key 31=30 then ((1+md c.key 1099511627776:Nat):Int) else ((1+md c.key 12:Nat):Int),c.gone,if c.gone then ⟨#[]⟩ else cutOf c.val 32⟩
theorem YL(c:Chg)(k:Nat)(h1:0<k)(h2:k≤8):SP 60 [agg (encChg c),.int .i64 k] [] (Gives (agg (encChg (chOf c k))) []):=by
 intro W F w hS;apply vc60;unfold Vc60;(try simp only[app]at hS)
 obtain⟨table,key,gone,val⟩:=c
 refine⟨_,rfl,zT hS ?_⟩
 clear hS;intro p w hS
 refine zT hS ?_
 clear hS;intro q w hS
 simp only[encChg]at hS
 have hm12:=md_lt key 12 (by decide)
 have hmb:=md_lt key 1099511627776 (by decide)
 have hme:(1:Int)+(md key 12:Int)=((1+md key 12:Nat):Int):=by omega
 have hmf:(1:Int)+(md key 1099511627776:Int)=((1+md key 1099511627776:Nat):Int):=by omega
 refine⟨λus w=>∃x:Nat,us=[.pointer (some ⟨x,0,none⟩)]∧SL W (.pt x [.int .i64 (md table k:Nat),.int .i64 ((1+md key 12:Nat):Int),.bool gone,.string ⟨#[]⟩] 82::.pt q [.int .i64 0,.int .i64 0,.bool false,.string ⟨#[]⟩] 82::.pt p [.int .i64 table,.int .i64 key,.bool gone,.string val] 82::F) w,?_,?_⟩
 ·refine yu hS ?_
  clear hS;intro w hS
  refine Gp ?_
  refine⟨?_,?_⟩
  ·refine Cg (yR table k h1 (by omega)) λw hS=>?_
   refine⟨?_,?_⟩
   ·refine Cg (yt key 12 (by decide) (by decide)) λw hS=>?_;refine Gm λb w hS=>?_
    rw[hme]at hS
    exact⟨_,rfl,SL.into hS Xi⟩
   ·refine Gm λb w hS=>?_
    refine Cg (yt key 12 (by decide) (by decide)) λw hS=>?_
    rw[hme]at hS
    exact⟨_,rfl,SL.into hS Xi⟩
  ·refine Gm λb w hS=>?_
   refine Cg (yR table k h1 (by omega)) λw hS=>?_
   refine Cg (yt key 12 (by decide) (by decide)) λw hS=>?_
   rw[hme]at hS
   exact⟨_,rfl,SL.into hS Xi⟩
 ·clear hS
  rintro v5 w ⟨x,hus,hS⟩
  cases hus
  refine⟨λus w=>us=[]∧SL W (.pt x [.int .i64 (md table k:Nat),.int .i64 (chOf ⟨table,key,gone,val⟩ k).key,.bool gone,.string ⟨#[]⟩] 82::.pt q [.int .i64 0,.int .i64 0,.bool false,.string ⟨#[]⟩] 82::.pt p [.int .i64 table,.int .i64 key,.bool gone,.string val] 82::F) w,?_,?_⟩
  ·refine Gp ?_
   refine Cg (yt key 31 (by decide) (by decide)) λw hS=>?_
   refine zc (λh=>?_) (λh=>?_)
   ·have hk:(chOf ⟨table,key,gone,val⟩ k).key=((1+md key 1099511627776:Nat):Int):=by unfold chOf;simp only;rw[if_pos (by omega)]
    rw[hk]
    refine Gp ?_
    refine Cg (yt key 1099511627776 (by decide) (by decide)) λw hS=>?_
    rw[hmf]at hS
    exact SL.into hS Xi
   ·have hk:(chOf ⟨table,key,gone,val⟩ k).key=((1+md key 12:Nat):Int):=by unfold chOf;simp only;rw[if_neg (by omega)]
    rw[hk]
    exact⟨rfl,SL.into hS Xi⟩
  ·clear hS
   rintro w ⟨-,hS⟩
   refine Gp ?_
   cases gone with
   | true=>
    refine zo ?_
    refine Gn λw hS=>?_
    have e:encChg (chOf ⟨table,key,true,val⟩ k)=[.int .i64 (md table k:Nat),.int .i64 (chOf ⟨table,key,true,val⟩ k).key,.bool true,.string ⟨#[]⟩]:=rfl
    rw[e]
    (exact⟨_,⟨rfl,rfl⟩,SL.into hS Xi⟩)
   | false=>
    refine zu ?_
    refine Gp ?_
    refine Cg (YM val 32) λw hS=>?_
    have e:encChg (chOf ⟨table,key,false,val⟩ k)=[.int .i64 (md table k:Nat),.int .i64 (chOf ⟨table,key,false,val⟩ k).key,.bool false,.string (cutOf val 32)]:=rfl
    rw[e]
    (exact⟨_,⟨rfl,rfl⟩,SL.into hS Xi⟩)
theorem fill_chg(c:Chg)(z:List Value)(hz:z.length=4):fillL (zrow z 1) [(0,4,agg (encChg c))]=some (encChg c):=by
 simp[fillL,zrow,Value.cells,encChg,hz]
theorem Z4(H:Heap)(v:Value)(l:List Chg)(k most:Nat)(hv:RdSl H 4 v l.length (l.map encChg).flatten)(h1:0<k)(h2:k≤8)(hm:most≤1000)(hn:l.length≤140737488351232):
  SP 17 [v,.int .i64 k,.int .i64 most] [.mem H] (λu post=>post=[.ob (OwnSl u 82 4 ((l.take most).map (chOf · k)).length (((l.take most).map (chOf · k)).map encChg).flatten),.mem H]):=by
 intro W F w hS;apply vc17;unfold Vc17;(try simp only[app]at hS)
 refine⟨λus w=>∃(m:Nat) (u:Value),us=[u,.int .i64 m]∧m≤l.length∧m≤most∧SL W (.ob (OwnSl u 82 4 m ((((l.take m).map (chOf · k)).map encChg).flatten))::.mem H::F) w,
  λus _=>match us with|[_,.int _ m]=>(l.length-m).toNat|_=>0,⟨0,_,rfl,by omega,by omega,OwnSl.nil hS⟩,?_⟩
 clear hS
 rintro v7 v8 w ⟨m,u,hus,hml,hmm,hS⟩
 cases hus
 have hend:∀w,(m=l.length∨m=most)→SL W (.ob (OwnSl v7 82 4 m ((((l.take m).map (chOf · k)).map encChg).flatten))::.mem H::F) w →
   ∃post,(post=[.ob (OwnSl v7 82 4 ((l.take most).map (chOf · k)).length (((l.take most).map (chOf · k)).map encChg).flatten),.mem H])∧SL W (app post F) w:=λw he hS=>by
  have ht:l.take m=l.take most:=by
   rcases he with rfl|rfl
   ·rw[List.take_length,List.take_of_length_le (by omega)]
   ·rfl
  have hl:m=((l.take most).map (chOf · k)).length:=by rw[← ht,List.length_map,List.length_take];omega
  rw[ht,hl]at hS
  exact⟨_,rfl,hS⟩
 refine zm hv ?_
 refine Gp ?_
 refine zc (λh=>?_) (λh=>hend w (.inl (by omega)) hS)
 refine Gp ?_
 refine zc (λh3=>?_) (λh3=>hend w (.inr (by omega)) hS)
 have hil:m<l.length:=by omega
 refine z8 hS Xh encChg_len hv (x:=l[m]) (by simp[hil]) hil ?_
 (refine Cc (YL l[m] k h1 h2) ?_;clear hS)
 rintro v26 post ⟨rfl,rfl⟩ w hS
 (try simp only[app]at hS)
 refine zx hS (fill_chg (chOf l[m] k) [.int .i64 0,.int .i64 0,.bool false,.string ⟨#[]⟩] rfl) ?_
 clear hS;intro b w hS
 refine zw (n:=m) (m:=1) hS Xr (src_pt0 (cs:=encChg (chOf l[m] k)) hS .hd rfl) rfl rfl (encChg_one _) (by omega) (by omega) ?_
 clear hS;intro u' w hS
 refine Gp ?_
 have e:(l.take (m+1)).map (chOf · k)=(l.take m).map (chOf · k)++[chOf l[m] k]:=by rw[List.take_succ_eq_append_getElem hil,List.map_append];rfl
 refine⟨⟨m+1,u',rfl,(by omega),(by omega),(by rw[e,flat_snoc];exact SL.into hS Xi)⟩,(by dsimp only;omega)⟩
theorem Ys(H:Heap)(v:Value)(l:List Chg)(k most:Nat)(hv:RdSl H 4 v l.length (l.map encChg).flatten)(h1:0<k)(h2:k≤8)(hm:most≤1000)(hn:l.length≤140737488351232):
  SP 17 [v,.int .i64 k,.int .i64 most] [.mem H] (λu post=>∃H',H.le H'∧RdSl H' 4 u ((l.take most).map (chOf · k)).length (((l.take most).map (chOf · k)).map encChg).flatten∧post=[.mem H']):=by
 intro W F w hS
 refine zR.mono (Z4 H v l k most hv h1 h2 hm hn W F w hS) ?_
 rintro u w ⟨post,rfl,hS⟩
 have hS:SL W (_::.mem H::F) w:=hS
 obtain⟨H2,h12,hR,hS⟩:=zz (H:=H) (v:=u) hS Xp
 exact⟨_,⟨H2,h12,hR,rfl⟩,hS⟩
end Go.Proofs.YtfenmffiidchcaaGreat
