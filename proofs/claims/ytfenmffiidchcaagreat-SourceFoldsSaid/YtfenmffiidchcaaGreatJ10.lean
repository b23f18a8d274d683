/-
  Texts of the proof, joined: SrcS, SrcS2, FoldS, RefFF, Law06, SrcQ, Law12P, RqP, SinkM, LogSt, SinkP, RLogG, SrcS3, SrcS4, SameC, Same1, Law12, PlayS.
-/
import Derived.Test.YtfenmffiidchcaaGreatJ9
import Derived.Test.YtfenmffiidchcaaGreatQVcC
import Derived.Test.YtfenmffiidchcaaGreatQVcF
import Derived.Test.YtfenmffiidchcaaGreatQVcG
namespace Go.Proofs.YtfenmffiidchcaaGreat
set_option linter.unusedVariables false
set_option maxRecDepth 100000
open Go.RowKit
abbrev scells(tp dp lp:Nat)(newest image:Int):List Value:=[ptrA tp,ptrA dp,ptrA lp,.int .i64 newest,.int .i64 image]
def SrcO(sp tp dp lp:Nat)(k:PSrc):zx:=zN True [.pt sp (scells tp dp lp k.newest k.image) 58,.ob (TabO tp k.ts),.ob (LogO lp dp k.g)]
section
variable {W w:World} {l F:List Chunk} {sp tp dp lp:Nat}
theorem SrcO.iff{k:PSrc}:SL W (.ob (SrcO sp tp dp lp k)::l) w↔SL W (.pt sp (scells tp dp lp k.newest k.image) 58::.ob (TabO tp k.ts)::.ob (LogO lp dp k.g)::l) w:=by
 unfold SrcO
 simp only[SL.fact,true_and,List.cons_append,List.nil_append]
theorem SrcO.put(k:PSrc)(hS:SL W l w)(p:Pick [.pt sp (scells tp dp lp k.newest k.image) 58,.ob (TabO tp k.ts),.ob (LogO lp dp k.g)] l F):SL W (.ob (SrcO sp tp dp lp k)::F) w:=SrcO.iff.2 (hS.pick p)
end
theorem SrcO.putN{W w:World}{l F:List Chunk}{sp tp dp lp:Nat}{g:PLog}{d:DS}{ts:Tabs}{newest image:Int}(hS:SL W l w)(p:Pick [.pt sp (scells tp dp lp newest image) 58,.ob (TabO tp ts),.ob (LogO lp dp g)] l F):SL W (.ob (SrcO sp tp dp lp ⟨g,d,ts,newest,image⟩)::F) w:=SrcO.iff.2 (hS.pick p)
structure SOk(k:PSrc)(N:Nat):Prop where
 g:GOk k.g N
 d:k.d.Ok N
 rows:∀C∈k.ts,RowsOk C
 len:∀C∈k.ts,C.length≤1000
 n1:1≤k.ts.length
 n8:k.ts.length≤8
section
variable (sp tp dp lp:Nat) (k:PSrc) {N:Nat} (hg:GOk k.g N) (hN:N≤1000000000)
include hg hN
theorem zC:SP 21 [ptrA sp] [.ob (SrcO sp tp dp lp k)] (Gives (.int .i64 (headG k.g.segs)) [.ob (SrcO sp tp dp lp k)]):=by
 intro W F w hS;apply vc21;unfold Vc21;(try simp only[app]at hS)
 have hS:=SrcO.iff.1 hS
 repeat first|refine Gp ?_|refine Gw λw hS=>?_|refine Gb λb w hS=>?_
 (apply za (Z9 lp dp k.g hg.ok (by omega)) hS;exact Xp;clear hS)
 (rintro v post ⟨rfl,rfl⟩ w hS;(try simp only[app]at hS);(repeat (first|refine Gp ?_|refine Gw λw hS=>?_|refine Gb λb w hS=>?_)))
 exact⟨_,⟨rfl,rfl⟩,SL.into (SrcO.put k hS Xp) Xi⟩
theorem Zu:SP 22 [ptrA sp] [.ob (SrcO sp tp dp lp k)] (Gives (.int .i64 (lowG k.g.segs)) [.ob (SrcO sp tp dp lp k)]):=by
 intro W F w hS;apply vc22;unfold Vc22;(try simp only[app]at hS)
 have hS:=SrcO.iff.1 hS
 repeat first|refine Gp ?_|refine Gw λw hS=>?_|refine Gb λb w hS=>?_
 (apply za (YL lp dp k.g hg.ok (by omega)) hS;exact Xp;clear hS)
 (rintro v post ⟨rfl,rfl⟩ w hS;(try simp only[app]at hS);(repeat (first|refine Gp ?_|refine Gw λw hS=>?_|refine Gb λb w hS=>?_)))
 exact⟨_,⟨rfl,rfl⟩,SL.into (SrcO.put k hS Xp) Xi⟩
def ReadSQ(sp tp dp lp:Nat)(k:PSrc)(H:Heap)(lsn:Int)(r:Value)(post:List Chunk):Prop:=match k.readS lsn with
 | .error e=>e≠0∧∃H',H.le H'∧r= .tuple #[agg (encTx zTx),.int .i64 e]∧post=[.ob (SrcO sp tp dp lp k),.mem H']
 | .ok t=>∃x H',H.le H'∧r= .tuple #[agg (encTx x),.int .i64 0]∧TxIs H' x t∧post=[.ob (SrcO sp tp dp lp k),.mem H']
theorem Zd(H:Heap)(lsn:Int)(hl : -9000000000000000000≤lsn∧lsn≤9000000000000000000):SP 23 [ptrA sp,.int .i64 lsn] [.ob (SrcO sp tp dp lp k),.mem H] (ReadSQ sp tp dp lp k H lsn):=by
 intro W F w hS;apply vc23;unfold Vc23;(try simp only[app]at hS)
 refine Gb λzb w hS=>?_
 have hS:=SrcO.iff.1 (SL.into hS (t:=.ob (SrcO sp tp dp lp k)::.pt zb [.int .i64 0,.int .i64 0,.slice none 0 0,.slice none 0 0,.int .i64 0] 39::.mem H::F) Xi)
 repeat first|refine Gp ?_|refine Gw λw hS=>?_|refine Gb λb w hS=>?_
 (apply za (Ym lp dp k.g hg.ok (by omega) lsn hl) hS;exact Xp;clear hS)
 rintro r post hq w hS
 unfold ReadLQ at hq
 cases hr:readG k.g.segs lsn with
 | none=>
  rw[hr]at hq
  obtain⟨rfl,rfl⟩:=hq
  have he:k.readS lsn= .error 5:=by unfold PSrc.readS;rw[hr]
  (try simp only[app]at hS)
  have hS:=SrcO.put k hS Xp
  repeat first|refine Gp ?_|refine Gw λw hS=>?_|refine Gb λb w hS=>?_
  refine zd (λ_=>?_) (λh=>absurd (by decide) h)
  repeat first|refine Gp ?_|refine Gw λw hS=>?_|refine Gb λb w hS=>?_
  exact⟨[.ob (SrcO sp tp dp lp k),.mem H],by unfold ReadSQ;rw[he];exact⟨by decide,H,Heap.le_refl H,rfl,rfl⟩,SL.into hS Xi⟩
 | some bs=>
  rw[hr]at hq
  obtain⟨u,rfl,rfl⟩:=hq
  have he:k.readS lsn=decTxn bs:=by unfold PSrc.readS;rw[hr]
  (try simp only[app]at hS)
  have hS:=SrcO.put k hS Xp
  repeat first|refine Gp ?_|refine Gw λw hS=>?_|refine Gb λb w hS=>?_
  refine zd (λh=>absurd rfl h) (λ_=>?_)
  (apply za (Yj (.ob (OwnSl u 5 1 bs.length (bs.map u8c))) H u bs Rdb.own) hS;exact Xp;clear hS)
  rintro r post hq w hS
  unfold DecTQ at hq
  cases hd:decTxn bs with
  | error e=>
   rw[hd]at hq
   obtain⟨hne,H',hh,rfl,rfl⟩:=hq
   (try simp only[app]at hS)
   unfold encTx zTx
   repeat first|refine Gp ?_|refine Gw λw hS=>?_|refine Gb λb w hS=>?_
   refine⟨[.ob (SrcO sp tp dp lp k),.mem H'],?_,SL.into hS Xi⟩
   unfold ReadSQ;rw[he,hd];exact⟨hne,H',hh,rfl,rfl⟩
  | ok t=>
   rw[hd]at hq
   obtain⟨x,H',hh,rfl,hx,rfl⟩:=hq
   (try simp only[app]at hS)
   have hc1:=hx.cv.one
   have hc2:=hx.sv.one
   repeat first|refine Gp ?_|refine Gw λw hS=>?_|refine Gb λb w hS=>?_
   refine yx (vs:=encTx x) hS Xu rfl rfl (encTx_one1 (lsn:=x.lsn) (kind:=x.kind) (mark:=x.mark) hc1 hc2) λw hS=>?_
   refine yR hS Xh rfl ?_
   refine⟨[.ob (SrcO sp tp dp lp k),.mem H'],?_,SL.into hS Xi⟩
   unfold ReadSQ;rw[he,hd];exact⟨x,H',hh,rfl,hx,rfl⟩
end
section
variable (sp tp dp lp:Nat) (k:PSrc)
theorem Z2:SP 58 [ptrA sp] [.ob (SrcO sp tp dp lp k)] (Gives (.int .i64 k.image) [.ob (SrcO sp tp dp lp k)]):=by
 intro W F w hS;apply vc58;unfold Vc58;(try simp only[app]at hS)
 have hS:=SrcO.iff.1 hS
 repeat first|refine Gp ?_|refine Gw λw hS=>?_|refine Gb λb w hS=>?_
 exact⟨_,⟨rfl,rfl⟩,SL.into (SrcO.put k hS Xp) Xi⟩
theorem Z1(t key n:Int)(hn:∀C∈k.ts,C.length≤1000000)(hs:∀C∈k.ts,SortedR C)(h1 : -1000000≤n)(h2:n≤9000000000000000000):SP 28 [ptrA sp,.int .i64 t,.int .i64 key,.int .i64 n] [.ob (SrcO sp tp dp lp k)] (λu post=>post=[RwO u (k.chunkS t key n),.ob (SrcO sp tp dp lp k)]):=by
 intro W F w hS;apply vc28;unfold Vc28;(try simp only[app]at hS)
 have hS:=SrcO.iff.1 hS
 repeat first|refine Gp ?_|refine Gw λw hS=>?_|refine Gb λb w hS=>?_
 (apply za (Z3 tp k.ts t key n hn hs h1 h2) hS;exact Xp;clear hS)
 rintro u post rfl w hS
 (try simp only[app]at hS)
 exact⟨_,rfl,SL.into (t:=RwO u (afterR (tabAt k.ts t) key n)::.ob (SrcO sp tp dp lp k)::F) (SrcO.put k hS Xp) Xi⟩
end
theorem y2(H:Heap)(v:Value)(l:List Chg)(n:Int)(hv:RdSl H 4 v l.length (l.map encChg).flatten)(hl:l.length≤140737488351232):SP 62 [v,.int .i64 n] [.mem H] (Gives (.bool (decide (∀c∈l,c.table<n))) [.mem H]):=by
 intro W F w hS;apply vc62;unfold Vc62;(try simp only[app]at hS)
 refine zp hv ?_
 refine⟨λus w=>∃i:Nat,us=[.int .i64 i]∧i≤l.length∧(∀j (h:j<l.length),j<i→l[j].table<n)∧SL W (.mem H::F) w,λus _=>match us with|[.int _ i]=>(l.length-i).toNat|_=>0,⟨0,rfl,by omega,λj h hj=>by omega,hS⟩,?_⟩
 clear hS
 rintro v9 w ⟨i,hus,hi,hall,hS⟩
 cases hus
 repeat first|refine Gp ?_|refine Gw λw hS=>?_|refine Gb λb w hS=>?_
 refine zd (λh=>?_) (λh=>?_)
 ·have hil:i<l.length:=by omega
  refine zL hS Xh encChg_len hv (x:=l[i]) (by simp[hil]) hil ?_
  have hf:¬l[i].table<n→decide (∀c∈l,c.table<n)=false:=λh=>decide_eq_false λh2=>h (h2 _ (List.getElem_mem hil))
  have hall2:l[i].table<n→∀j (h:j<l.length),j<i+1→l[j].table<n:=λh j hj hji=>by
   by_cases e:j=i
   ·subst e;exact h
   ·exact hall j hj (by omega)
  clear hall
  generalize l[i]=c at *
  obtain⟨ct,ck,cg,cv⟩:=c
  rw[encChg_mk]
  repeat first|refine Gp ?_|refine Gw λw hS=>?_|refine Gb λb w hS=>?_
  refine zd (λhb=>?_) (λhb=>?_)
  ·rw[hf (by show ¬ct<n;omega)]
   (exact⟨_,⟨rfl,rfl⟩,SL.into hS Xi⟩)
  ·repeat first|refine Gp ?_|refine Gw λw hS=>?_|refine Gb λb w hS=>?_
   refine⟨⟨i+1,rfl,by omega,hall2 (by show ct<n;omega),SL.into hS Xi⟩,by dsimp only;omega⟩
 ·rw[show decide (∀c∈l,c.table<n)=true from decide_eq_true λc hc=>by
   obtain⟨j,hj,rfl⟩:=List.getElem_of_mem hc
   exact hall j hj (by omega)]
  (exact⟨_,⟨rfl,rfl⟩,SL.into hS Xi⟩)
theorem mayTx_lsn{t:TxnD}(h:mayTx t=true){n:Int}(h1:1≤n)(h2:n≤1099511627776):mayTx {t with lsn:=n}=true:=by
 obtain⟨_,h3⟩:=mayTx_iff.1 h
 exact mayTx_iff.2 ⟨⟨h1,h2⟩,h3⟩
abbrev AnsS(sp tp dp lp:Nat)(H:Heap)(y:PSrc × (Int × Int)):Value→List Chunk→Prop:=Gives (.tuple #[.int .i64 y.2.1,.int .i64 y.2.2]) [.ob (SrcO sp tp dp lp y.1),.ob (DskO dp y.1.d),.mem H]
theorem YR(sp tp dp lp:Nat)(k:PSrc)(H:Heap)(x:TxV)(t:TxnD)(hx:TxIs H x t)(hm:mayTx t=true){N:Nat}(hk:SOk k N)(hN:N≤1000000000)(hops:k.d.ops≤90000):
  SP 63 [ptrA sp,agg (encTx x)] [.ob (SrcO sp tp dp lp k),.ob (DskO dp k.d),.mem H] (AnsS sp tp dp lp H (k.addS t)):=by
 intro W F w hS;apply vc63;unfold Vc63;(try simp only[app]at hS)
 have hg:=hk.g
 obtain⟨ht1,ht2,ht3,ht4,ht5,ht6,ht7⟩:=mayTx_all hm
 have hd0:=headG_ge hg.ok.segs
 have hn6:∀C∈k.ts,C.length≤1000000:=λC hC=>by have:=hk.len C hC;omega
 have hst:∀C∈k.ts,SortedR C:=λC hC=>(hk.rows C hC).sorted
 have h8:=hk.n8
 refine ye hS λxb w hS=>?_
 unfold encTx at hS
 rw[hx.lsn,hx.kind,hx.mark]at hS
 have hS:=SrcO.iff.1 (SL.into hS (t:=.ob (SrcO sp tp dp lp k)::TxC xb x t::.ob (DskO dp k.d)::.mem H::F) Xi)
 repeat first|refine Gp ?_|refine Gw λw hS=>?_|refine Gb λb w hS=>?_
 (apply za (zV dp k.d) hS;exact Xp;clear hS)
 (rintro v post ⟨rfl,rfl⟩ w hS;(try simp only[app]at hS);(repeat (first|refine Gp ?_|refine Gw λw hS=>?_|refine Gb λb w hS=>?_)))
 cases ho:k.d.off with
 | true=>
  refine zs ?_
  rw[show k.addS t=(k,(0,8)) by unfold PSrc.addS;rw[if_pos ho]]
  exact⟨_,⟨rfl,rfl⟩,SL.into (SrcO.put k hS Xp) Xi⟩
 | false=>
  refine zo ?_
  repeat first|refine Gp ?_|refine Gw λw hS=>?_|refine Gb λb w hS=>?_
  (apply za (Yu tp k.ts H x.cv t.changes hx.cv (by omega) hst hn6 (by omega) (by omega)) hS;exact Xp;clear hS)
  (rintro v post ⟨rfl,rfl⟩ w hS;(try simp only[app]at hS);(repeat (first|refine Gp ?_|refine Gw λw hS=>?_|refine Gb λb w hS=>?_)))
  refine zI (λhf=>?_) (λhf=>?_)
  ·rw[show k.addS t=(k,(0,7)) by unfold PSrc.addS;rw[if_neg (by simp[ho]),if_pos (.inl hf)]]
   exact⟨_,⟨rfl,rfl⟩,SL.into (SrcO.put k hS Xp) Xi⟩
  have hS:=SrcO.put k hS Xp
  (apply za (zC sp tp dp lp k hg hN) hS;exact Xp;clear hS)
  (rintro v post ⟨rfl,rfl⟩ w hS;(try simp only[app]at hS);(repeat (first|refine Gp ?_|refine Gw λw hS=>?_|refine Gb λb w hS=>?_)))
  refine zd (λhh=>?_) (λhh=>?_)
  ·rw[show k.addS t=(k,(0,7)) by unfold PSrc.addS;rw[if_neg (by simp[ho]),if_pos (.inr hh)]]
   exact⟨_,⟨rfl,rfl⟩,SL.into hS Xi⟩
  (apply za (zC sp tp dp lp k hg hN) hS;exact Xp;clear hS)
  (rintro v post ⟨rfl,rfl⟩ w hS;(try simp only[app]at hS);(repeat (first|refine Gp ?_|refine Gw λw hS=>?_|refine Gb λb w hS=>?_)))
  have hm2:=mayTx_lsn hm (n:=headG k.g.segs+1) (by omega) (by omega)
  have hx2:TxIs H ⟨headG k.g.segs+1,t.kind,x.cv,x.sv,t.mark⟩ {t with lsn:=headG k.g.segs+1}:=⟨rfl,rfl,rfl,hx.cv,hx.sv⟩
  have hadd:k.addS t=(let r:=appendG k.g k.d (bytesT {t with lsn:=headG k.g.segs+1});if r.2.2=0 then ({k with g:=r.1.1,d:=r.1.2,ts:=appsTs k.ts t.changes},(headG k.g.segs+1,0)) else ({k with g:=r.1.1,d:=r.1.2},(0,r.2.2))):=by
   unfold PSrc.addS
   rw[if_neg (by simp[ho]),if_neg (by rw[hf];simp;omega)]
  have hbl:=bytesTx_len hm2
  have hbo:=bytesTx_ok hm2
  rw[hadd]
  clear hadd
  generalize hq:({t with lsn:=headG k.g.segs+1}:TxnD)=t2 at *
  have hln:1≤headG k.g.segs+1:=by omega
  generalize headG k.g.segs+1=lsn at *
  (apply za (Yk H ⟨lsn,t.kind,x.cv,x.sv,t.mark⟩ t2 hx2) hS;exact Xp;clear hS)
  rintro r post hq w hS
  unfold EncTQ at hq
  rw[hbo]at hq
  obtain⟨bv,rfl,rfl⟩:=hq
  (try simp only[app]at hS)
  have hS:=SrcO.iff.1 (SL.into hS (t:=.ob (SrcO sp tp dp lp k)::.ob (OwnSl bv 5 1 (bytesTx t2).length ((bytesTx t2).map u8c))::.ob (DskO dp k.d)::.pt xb [.int .i64 lsn,.int .i64 t.kind,x.cv,x.sv,.int .i64 t.mark] 39::.mem H::F) Xi)
  repeat first|refine Gp ?_|refine Gw λw hS=>?_|refine Gb λb w hS=>?_
  refine⟨λus w=>us=[.int .i64 (appendG k.g k.d (bytesT t2)).2.2]∧SL W (.ob (LogO lp dp (appendG k.g k.d (bytesT t2)).1.1)::.ob (DskO dp (appendG k.g k.d (bytesT t2)).1.2)::.pt sp (scells tp dp lp k.newest k.image) 58::.ob (TabO tp k.ts)::.pt xb [.int .i64 lsn,.int .i64 t.kind,x.cv,x.sv,.int .i64 t.mark] 39::.mem H::F) w,?_,?_⟩
  ·repeat first|refine Gp ?_|refine Gw λw hS=>?_|refine Gb λb w hS=>?_
   refine zd (λ_=>?_) (λh=>absurd rfl h)
   repeat first|refine Gp ?_|refine Gw λw hS=>?_|refine Gb λb w hS=>?_
   (apply za (Zx (.ob (OwnSl bv 5 1 (bytesTx t2).length ((bytesTx t2).map u8c))) lp dp k.g k.d bv (bytesTx t2) Rdb.own (by omega) hg.ok (by omega) hk.d (by omega) hops) hS;exact Xp;clear hS)
   (rintro v post ⟨rfl,rfl⟩ w hS;(try simp only[app]at hS);(repeat (first|refine Gp ?_|refine Gw λw hS=>?_|refine Gb λb w hS=>?_)))
   exact SL.into hS Xi
  clear hS
  rintro v7 w ⟨hus,hS⟩
  cases hus
  generalize appendG k.g k.d (bytesT t2)=r at *
  obtain⟨⟨g',d'⟩,n',e'⟩:=r
  simp only at hS ⊢
  repeat first|refine Gp ?_|refine Gw λw hS=>?_|refine Gb λb w hS=>?_
  refine zd (λhe=>?_) (λhe=>?_)
  ·rw[if_neg he]
   exact⟨_,⟨rfl,rfl⟩,SL.into (SrcO.putN (d:=d') hS Xp) Xi⟩
  ·have he:e'=0:=by omega
   rw[if_pos he]
   repeat first|refine Gp ?_|refine Gw λw hS=>?_|refine Gb λb w hS=>?_
   (apply za (yY tp k.ts H x.cv t.changes hx.cv (by omega) hst 1000 hk.len (by omega)) hS;exact Xp;clear hS)
   (rintro v post ⟨rfl,rfl⟩ w hS;(try simp only[app]at hS);(repeat (first|refine Gp ?_|refine Gw λw hS=>?_|refine Gb λb w hS=>?_)))
   have hall:t.changes.all (chgIn k.ts.length)=true:=by
    unfold fitsTs at hf
    rw[Bool.and_eq_true]at hf
    exact hf.1
   rw[if_pos hall]at hS
   exact⟨_,⟨rfl,rfl⟩,SL.into (SrcO.putN (d:=d') hS Xp) Xi⟩
theorem zT(sp tp dp lp:Nat)(k:PSrc)(H:Heap)(sv cv:Value)(sg:List ByteArray)(l:List Chg)(hs:RdSl H 1 sv sg.length (sg.map Value.string))(hc:RdSl H 4 cv l.length (l.map encChg).flatten)(hl:l.length≤140737488351232){N:Nat}(hk:SOk k N)(hN:N≤1000000000)(hops:k.d.ops≤90000):
  SP 18 [ptrA sp,sv,cv] [.ob (SrcO sp tp dp lp k),.ob (DskO dp k.d),.mem H] (AnsS sp tp dp lp H (k.commitS sg l)):=by
 intro W F w hS;apply vc18;unfold Vc18;(try simp only[app]at hS)
 have hs1:=hs.one
 have hc1:=hc.one
 have hx:TxIs H ⟨1,1,cv,sv,0⟩ ⟨1,1,l,sg,0⟩:=⟨rfl,rfl,rfl,hc,hs⟩
 have e0:fillL [.int .i64 0,.int .i64 0,.slice none 0 0,.slice none 0 0,.int .i64 0] [(0,1,.int .i64 1),(1,1,.int .i64 1),(2,1,cv),(3,1,sv)]=some (encTx ⟨1,1,cv,sv,0⟩):=by
  simp[fillL,show ∀n,(Value.int .i64 n).cells = #[.int .i64 n] from λ_=>rfl,one_cells hs1,one_cells hc1,encTx]
 refine yW e0 ?_
 refine Gb λxb w hS=>?_
 refine yx hS Xu rfl rfl (encTx_one1 hc1 hs1) λw hS=>?_
 refine yR hS Xh rfl ?_
 (apply za (yj H ⟨1,1,cv,sv,0⟩ ⟨1,1,l,sg,0⟩ hx) hS;exact Xp;clear hS)
 (rintro v post ⟨rfl,rfl⟩ w hS;(try simp only[app]at hS);(repeat (first|refine Gp ?_|refine Gw λw hS=>?_|refine Gb λb w hS=>?_)))
 refine zI (λhm=>?_) (λhm=>?_)
 ·rw[show k.commitS sg l=(k,(0,1)) by unfold PSrc.commitS;rw[if_neg (by rw[hm];simp)]]
  exact⟨_,⟨rfl,rfl⟩,SL.into hS Xi⟩
 have hS:=SrcO.iff.1 (SL.into hS (t:=.ob (SrcO sp tp dp lp k)::.pt xb (encTx ⟨1,1,cv,sv,0⟩) 39::.ob (DskO dp k.d)::.mem H::F) Xi)
 repeat first|refine Gp ?_|refine Gw λw hS=>?_|refine Gb λb w hS=>?_
 (apply za (zH tp k.ts) hS;exact Xp;clear hS)
 (rintro v post ⟨rfl,rfl⟩ w hS;(try simp only[app]at hS);(repeat (first|refine Gp ?_|refine Gw λw hS=>?_|refine Gb λb w hS=>?_)))
 (apply za (y2 H cv l k.ts.length hc hl) hS;exact Xp;clear hS)
 (rintro v post ⟨rfl,rfl⟩ w hS;(try simp only[app]at hS);(repeat (first|refine Gp ?_|refine Gw λw hS=>?_|refine Gb λb w hS=>?_)))
 have hS:=SrcO.put k hS Xp
 refine zI (λhb=>?_) (λhb=>?_)
 ·have hb:=of_decide_eq_false hb
  rw[show k.commitS sg l=(k,(0,1)) by unfold PSrc.commitS;rw[if_neg λh=>hb h.2]]
  exact⟨_,⟨rfl,rfl⟩,SL.into hS Xi⟩
 have hb:=of_decide_eq_true hb
 rw[show k.commitS sg l=k.addS ⟨1,1,l,sg,0⟩ by unfold PSrc.commitS;rw[if_pos ⟨hm,hb⟩]]
 refine yR hS Xh rfl ?_
 (apply za (YR sp tp dp lp k H ⟨1,1,cv,sv,0⟩ ⟨1,1,l,sg,0⟩ hx hm hk hN hops) hS;exact Xp;clear hS)
 (rintro v post ⟨rfl,rfl⟩ w hS;(try simp only[app]at hS);(repeat (first|refine Gp ?_|refine Gw λw hS=>?_|refine Gb λb w hS=>?_)))
 exact⟨_,⟨rfl,rfl⟩,SL.into hS Xi⟩
def drC(d:DS)(f:Int):DS × Int:=if 0≤lenF d.R f then d.cut f 0 else (d,0)
def drA(d:DS)(f:Int)(b:List UInt8):DS × Int:=if (drC d f).2=0 then (drC d f).1.append f b else drC d f
theorem drawD_eq(d:DS)(f:Int)(b:List UInt8):drawD d f b=if (drA d f b).2=0 then (drA d f b).1.sync f else drA d f b:=by
 unfold drawD drA
 rw[show (if 0≤lenF d.R f then d.cut f 0 else (d,0))=drC d f from rfl]
 generalize drC d f=c
 simp only
 by_cases h:c.2=0
 ·rw[if_neg (by simp[h]),if_pos h]
  generalize c.1.append f b=a
  by_cases h2:a.2=0
  ·rw[if_neg (by simp[h2]),if_pos h2]
  ·rw[if_pos h2,if_neg h2]
 ·rw[if_pos h,if_neg h,if_neg h]
theorem drC_ok{d:DS}{f:Int}{N:Nat}(h:d.Ok N):(drC d f).1.Ok N∧(drC d f).1.ops≤d.ops+1:=by
 unfold drC
 split
 ·exact⟨h.cut f 0,ops_cut d f 0⟩
 ·exact⟨h,Nat.le_succ _⟩
theorem drA_ok{d:DS}{f:Int}{b:List UInt8}{N:Nat}(h:d.Ok N):(drA d f b).1.Ok (N+b.length)∧(drA d f b).1.ops≤d.ops+2:=by
 obtain⟨h1,h2⟩:=drC_ok (f:=f) h
 unfold drA
 split
 ·exact⟨h1.append f b,by have:=ops_append (drC d f).1 f b;omega⟩
 ·exact⟨h1.mono (by omega),by omega⟩
theorem drawD_ok{d:DS}{f:Int}{b:List UInt8}{N:Nat}(h:d.Ok N):(drawD d f b).1.Ok (N+b.length)∧(drawD d f b).1.ops≤d.ops+3:=by
 obtain⟨h1,h2⟩:=drA_ok (f:=f) (b:=b) h
 rw[drawD_eq]
 split
 ·exact⟨h1.sync f,by have:=ops_sync (drA d f b).1 f;omega⟩
 ·exact⟨h1,by omega⟩
theorem SOk.mayImg{k:PSrc}{N:Nat}(h:SOk k N):mayImg (headG k.g.segs) k.ts=true:=
 mayImg_iff.2 ⟨⟨(headG_ge h.g.ok.segs).1,h.g.hd,h.n1,h.n8⟩,λC hC=>⟨(h.rows C hC).sorted,(h.rows C hC).rows,h.len C hC⟩⟩
theorem Rd2.zero(H:Heap)(ts:List (List Row)):Rd2 H [] (ts.take 0):=Rd2.nil H
theorem Ys(sp tp dp lp:Nat)(k:PSrc)(H:Heap){N:Nat}(hk:SOk k N)(hN:N≤1000000000)(hops:k.d.ops≤90000):
  SP 65 [ptrA sp] [.ob (SrcO sp tp dp lp k),.ob (DskO dp k.d),.mem H] (λv post=>v= .int .i64 k.drawS.2∧∃H',H.le H'∧post=[.ob (SrcO sp tp dp lp k.drawS.1),.ob (DskO dp k.drawS.1.d),.mem H']):=by
 intro W F w hS;apply vc65;unfold Vc65;(try simp only[app]at hS)
 have hn6:∀C∈k.ts,C.length≤1000000:=λC hC=>by have:=hk.len C hC;omega
 have h8:=hk.n8
 have hmi:=hk.mayImg
 have hS:=SrcO.iff.1 hS
 refine⟨λus w=>us=[.int .i64 (otherI k)]∧SL W (.pt sp (scells tp dp lp k.newest k.image) 58::.ob (TabO tp k.ts)::.ob (LogO lp dp k.g)::.ob (DskO dp k.d)::.mem H::F) w,?_,?_⟩
 ·repeat first|refine Gp ?_|refine Gw λw hS=>?_|refine Gb λb w hS=>?_
  refine zd (λh=>?_) (λh=>?_)
  ·rw[show otherI k=1 by unfold otherI;rw[if_pos h]]
   repeat first|refine Gp ?_|refine Gw λw hS=>?_|refine Gb λb w hS=>?_
   first|exact hS|exact⟨rfl,hS⟩
  ·rw[show otherI k=0 by unfold otherI;rw[if_neg h]]
   first|exact hS|exact⟨rfl,hS⟩
 clear hS
 rintro v3 w ⟨hus,hS⟩
 cases hus
 generalize hf:otherI k=f at *
 repeat first|refine Gp ?_|refine Gw λw hS=>?_|refine Gb λb w hS=>?_
 (apply za (zH tp k.ts) hS;exact Xp;clear hS)
 (rintro v post ⟨rfl,rfl⟩ w hS;(try simp only[app]at hS);(repeat (first|refine Gp ?_|refine Gw λw hS=>?_|refine Gb λb w hS=>?_)))
 have hS:SL W (.ob (OwnSl (.slice none 0 0) 53 1 (k.ts.take 0).length [])::_) _:=OwnSl.nil hS
 refine⟨λus w=>∃(i:Nat) (tv:Value) (vs:List Value) (H':Heap),us=[tv,.int .i64 i]∧i≤k.ts.length∧H.le H'∧Rd2 H' vs (k.ts.take i)∧SL W (.ob (OwnSl tv 53 1 (k.ts.take i).length vs)::.pt sp (scells tp dp lp k.newest k.image) 58::.ob (TabO tp k.ts)::.ob (LogO lp dp k.g)::.ob (DskO dp k.d)::.mem H'::F) w,
  λus _=>match us with|[_,.int _ i]=>(k.ts.length-i).toNat|_=>0,⟨0,_,[],H,rfl,by omega,Heap.le_refl H,Rd2.zero H k.ts,SL.into hS Xi⟩,?_⟩
 clear hS
 rintro tv v21 w ⟨i,_,vs,H',hus,hi,hh,hR,hS⟩
 cases hus
 repeat first|refine Gp ?_|refine Gw λw hS=>?_|refine Gb λb w hS=>?_
 refine zd (λh=>?_) (λh=>?_)
 ·have hil:i<k.ts.length:=by omega
  repeat first|refine Gp ?_|refine Gw λw hS=>?_|refine Gb λb w hS=>?_
  (apply za (yd tp k.ts i hn6) hS;exact Xp;clear hS)
  rintro rv post rfl w hS
  rw[tabAt_nat k.ts i hil]at hS
  (try simp only[app]at hS)
  obtain⟨H2,h12,hO,hS⟩:=zw (H:=H') (v:=rv) hS Xp
  have hc1:=hO.one
  have hln:(k.ts.take i).length=i:=by rw[List.length_take];omega
  refine zy hS (fill_v hc1) λb w hS=>?_
  refine zE (n:=(k.ts.take i).length) (m:=1) hS Xr (src_pt0 (cs:=[rv]) hS Xh rfl) rfl rfl (by simpa using hc1) (by omega) (by omega) ?_
  clear hS;intro u w hS
  have hts:k.ts.take (i+1)=k.ts.take i++[k.ts[i]]:=List.take_succ_eq_append_getElem hil
  repeat first|refine Gp ?_|refine Gw λw hS=>?_|refine Gb λb w hS=>?_
  refine⟨⟨i+1,u,vs++[rv],H2,rfl,by omega,Heap.le_trans hh h12,by rw[hts];exact (hR.mono h12).snoc hO,?_⟩,by dsimp only;omega⟩
  have hS:=hS.snocL (x:=k.ts[i])
  rw[hts]
  exact SL.into hS Xi
 ·obtain rfl:i=k.ts.length:=by omega
  rw[List.take_length]at hR hS
  obtain⟨H2,h12,hO,hS⟩:=zw (H:=H') (v:=tv) hS Xp
  have h02:=Heap.le_trans hh h12
  have hT:RdTs H2 tv k.ts:=⟨vs,hO,hR.mono h12⟩
  have hS:=SrcO.put k hS Xp
  (apply za (zC sp tp dp lp k hk.g hN) hS;exact Xp;clear hS)
  (rintro v post ⟨rfl,rfl⟩ w hS;(try simp only[app]at hS);(repeat (first|refine Gp ?_|refine Gw λw hS=>?_|refine Gb λb w hS=>?_)))
  (apply za (ZT H2 tv (headG k.g.segs) k.ts hT (by omega) (λC hC=>by have:=hk.len C hC;omega)) hS;exact Xp;clear hS)
  rintro r post hq w hS
  unfold EncImQ encImg at hq
  rw[if_pos hmi]at hq
  obtain⟨bv,rfl,rfl⟩:=hq
  (try simp only[app]at hS)
  repeat first|refine Gp ?_|refine Gw λw hS=>?_|refine Gb λb w hS=>?_
  have hbl:(recB (imgB (headG k.g.segs) k.ts)).length≤400000:=by rw[recB_len];have:=imgB_len hmi;omega
  have hD:k.drawS=(let r:=drawD k.d f (recB (imgB (headG k.g.segs) k.ts));if r.2=0 then ({k with d:=r.1,newest:=f,image:=headG k.g.segs},0) else ({k with d:=r.1},r.2)):=by rw[← hf];rfl
  rw[hD]
  clear hD hmi
  generalize recB (imgB (headG k.g.segs) k.ts)=B at *
  have hS:=SrcO.iff.1 (SL.into hS (t:=.ob (SrcO sp tp dp lp k)::.ob (OwnSl bv 5 1 B.length (B.map u8c))::.ob (DskO dp k.d)::.mem H2::F) Xi)
  refine⟨λus w=>us=[.int .i64 (drC k.d f).2]∧SL W (.ob (DskO dp (drC k.d f).1)::.ob (OwnSl bv 5 1 B.length (B.map u8c))::.pt sp (scells tp dp lp k.newest k.image) 58::.ob (TabO tp k.ts)::.ob (LogO lp dp k.g)::.mem H2::F) w,?_,?_⟩
  ·repeat first|refine Gp ?_|refine Gw λw hS=>?_|refine Gb λb w hS=>?_
   refine zd (λ_=>?_) (λh=>absurd rfl h)
   repeat first|refine Gp ?_|refine Gw λw hS=>?_|refine Gb λb w hS=>?_
   (apply za (Zk dp k.d f) hS;exact Xp;clear hS)
   (rintro v post ⟨rfl,rfl⟩ w hS;(try simp only[app]at hS);(repeat (first|refine Gp ?_|refine Gw λw hS=>?_|refine Gb λb w hS=>?_)))
   refine zd (λh0=>?_) (λh0=>?_)
   ·rw[show drC k.d f=k.d.cut f 0 by unfold drC;rw[if_pos h0]]
    repeat first|refine Gp ?_|refine Gw λw hS=>?_|refine Gb λb w hS=>?_
    (apply za (yK dp k.d N hk.d (by omega) (by omega) f 0) hS;exact Xp;clear hS)
    (rintro v post ⟨rfl,rfl⟩ w hS;(try simp only[app]at hS);(repeat (first|refine Gp ?_|refine Gw λw hS=>?_|refine Gb λb w hS=>?_)))
    first|exact SL.into hS Xi|exact⟨rfl,SL.into hS Xi⟩
   ·rw[show drC k.d f=(k.d,0) by unfold drC;rw[if_neg h0]]
    first|exact SL.into hS Xi|exact⟨rfl,SL.into hS Xi⟩
  clear hS
  rintro v7 w ⟨hus,hS⟩
  cases hus
  obtain⟨hc1,hc2⟩:=drC_ok (f:=f) hk.d
  refine⟨λus w=>us=[.int .i64 (drA k.d f B).2]∧SL W (.ob (DskO dp (drA k.d f B).1)::.pt sp (scells tp dp lp k.newest k.image) 58::.ob (TabO tp k.ts)::.ob (LogO lp dp k.g)::.mem H2::F) w,?_,?_⟩
  ·repeat first|refine Gp ?_|refine Gw λw hS=>?_|refine Gb λb w hS=>?_
   refine zd (λh0=>?_) (λh0=>?_)
   ·rw[show drA k.d f B=(drC k.d f).1.append f B by unfold drA;rw[if_pos h0]]
    repeat first|refine Gp ?_|refine Gw λw hS=>?_|refine Gb λb w hS=>?_
    (apply za (appendD_gen (.ob (OwnSl bv 5 1 B.length (B.map u8c))) dp (drC k.d f).1 N hc1 (by omega) f bv B (λh m=>src_own h m) (by omega)) hS;exact Xp;clear hS)
    (rintro v post ⟨rfl,rfl⟩ w hS;(try simp only[app]at hS);(repeat (first|refine Gp ?_|refine Gw λw hS=>?_|refine Gb λb w hS=>?_)))
    first|exact SL.into hS Xi|exact⟨rfl,SL.into hS Xi⟩
   ·rw[show drA k.d f B=drC k.d f by unfold drA;rw[if_neg h0]]
    first|exact SL.into hS Xi|exact⟨rfl,SL.into hS Xi⟩
  clear hS
  rintro v7 w ⟨hus,hS⟩
  cases hus
  obtain⟨ha1,ha2⟩:=drA_ok (f:=f) (b:=B) hk.d
  rw[drawD_eq]
  generalize drA k.d f B=a at *
  simp only
  repeat first|refine Gp ?_|refine Gw λw hS=>?_|refine Gb λb w hS=>?_
  refine zd (λh0=>?_) (λh0=>?_)
  ·rw[if_pos h0]
   repeat first|refine Gp ?_|refine Gw λw hS=>?_|refine Gb λb w hS=>?_
   (apply za (Ze dp a.1 (N+B.length) ha1 (by omega) f) hS;exact Xp;clear hS)
   (rintro v post ⟨rfl,rfl⟩ w hS;(try simp only[app]at hS);(repeat (first|refine Gp ?_|refine Gw λw hS=>?_|refine Gb λb w hS=>?_)))
   generalize a.1.sync f=c at *
   refine zd (λhe=>?_) (λhe=>?_)
   ·rw[if_neg he]
    exact⟨_,⟨rfl,H2,h02,rfl⟩,SL.into (SrcO.putN (d:=c.1) hS Xp) Xi⟩
   ·rw[if_pos (show c.2=0 by omega)]
    have hS:=SrcO.put k hS Xp
    (apply za (zC sp tp dp lp k hk.g hN) hS;exact Xp;clear hS)
    (rintro v post ⟨rfl,rfl⟩ w hS;(try simp only[app]at hS);(repeat (first|refine Gp ?_|refine Gw λw hS=>?_|refine Gb λb w hS=>?_)))
    have hS:=SrcO.iff.1 (SL.into hS (t:=.ob (SrcO sp tp dp lp k)::.ob (DskO dp c.1)::.mem H2::F) Xi)
    repeat first|refine Gp ?_|refine Gw λw hS=>?_|refine Gb λb w hS=>?_
    exact⟨_,⟨rfl,H2,h02,rfl⟩,SL.into (SrcO.putN (d:=c.1) (newest:=f) (image:=headG k.g.segs) hS Xp) Xi⟩
  ·rw[if_neg h0,if_neg h0]
   repeat first|refine Gp ?_|refine Gw λw hS=>?_|refine Gb λb w hS=>?_
   refine zd (λhe=>?_) (λhe=>absurd (by omega) h0)
   exact⟨_,⟨rfl,H2,h02,rfl⟩,SL.into (SrcO.putN (d:=a.1) hS Xp) Xi⟩
theorem Yt(sp tp dp lp:Nat)(k:PSrc)(H:Heap)(lsn:Int){N:Nat}(hk:SOk k N)(hN:N≤900000000)(hops:k.d.ops+k.g.segs.length≤90000):
  SP 19 [ptrA sp,.int .i64 lsn] [.ob (SrcO sp tp dp lp k),.ob (DskO dp k.d),.mem H] (λv post=>v= .int .i64 (k.trimS lsn).2∧∃H',H.le H'∧post=[.ob (SrcO sp tp dp lp (k.trimS lsn).1),.ob (DskO dp (k.trimS lsn).1.d),.mem H']):=by
 intro W F w hS;apply vc19;unfold Vc19;(try simp only[app]at hS)
 have hend:∀{w:World} {e:Int},k.trimS lsn=(k,e)→SL W (.ob (SrcO sp tp dp lp k)::.ob (DskO dp k.d)::.mem H::F) w→∃post,((.int .i64 e:Value)= .int .i64 (k.trimS lsn).2∧∃H',H.le H'∧post=[.ob (SrcO sp tp dp lp (k.trimS lsn).1),.ob (DskO dp (k.trimS lsn).1.d),.mem H'])∧SL W (app post F) w:=λhe hS=>by
  rw[he];exact⟨_,⟨rfl,H,Heap.le_refl H,rfl⟩,hS⟩
 repeat first|refine Gp ?_|refine Gw λw hS=>?_|refine Gb λb w hS=>?_
 refine zd (λh=>hend (by unfold PSrc.trimS;rw[if_pos (.inl h)]) hS) (λh1=>?_)
 (apply za (zC sp tp dp lp k hk.g (by omega)) hS;exact Xp;clear hS)
 (rintro v post ⟨rfl,rfl⟩ w hS;(try simp only[app]at hS);(repeat (first|refine Gp ?_|refine Gw λw hS=>?_|refine Gb λb w hS=>?_)))
 refine zd (λh=>hend (by unfold PSrc.trimS;rw[if_pos (.inr h)]) (SL.into hS Xi)) (λh2=>?_)
 have hS:=SrcO.iff.1 (SL.into hS (t:=.ob (SrcO sp tp dp lp k)::.ob (DskO dp k.d)::.mem H::F) Xi)
 repeat first|refine Gp ?_|refine Gw λw hS=>?_|refine Gb λb w hS=>?_
 (apply za (zV dp k.d) hS;exact Xp;clear hS)
 (rintro v post ⟨rfl,rfl⟩ w hS;(try simp only[app]at hS);(repeat (first|refine Gp ?_|refine Gw λw hS=>?_|refine Gb λb w hS=>?_)))
 have hS:=SrcO.put k hS Xp
 have h12:¬(lsn<0∨headG k.g.segs<lsn):=by omega
 cases ho:k.d.off with
 | true=>
  refine zs ?_
  exact hend (by unfold PSrc.trimS;rw[if_neg h12,if_pos ho]) (SL.into hS Xi)
 | false=>
  refine zo ?_
  have hT:k.trimS lsn=(let r:=if k.image<lsn then k.drawS else (k,0);if r.2≠0 then r else let t:=trimG r.1.g r.1.d lsn;({r.1 with g:=t.1.1,d:=t.1.2},t.2)):=by
   unfold PSrc.trimS
   rw[if_neg h12,if_neg (by simp[ho])]
  rw[hT]
  clear hT hend
  have hS:=SrcO.iff.1 (SL.into hS (t:=.ob (SrcO sp tp dp lp k)::.ob (DskO dp k.d)::.mem H::F) Xi)
  repeat first|refine Gp ?_|refine Gw λw hS=>?_|refine Gb λb w hS=>?_
  refine zd (λh3=>?_) (λh3=>?_)
  ·rw[if_pos h3]
   have hS:=SrcO.put k hS Xp
   (apply za (Ys sp tp dp lp k H hk (by omega) (by omega)) hS;exact Xp;clear hS)
   rintro v post ⟨rfl,H',hh,rfl⟩ w hS
   (try simp only[app]at hS)
   have hg2:k.drawS.1.g=k.g:=by unfold PSrc.drawS;simp only;split<;>rfl
   have hd2:k.drawS.1.d.Ok (N+400000)∧k.drawS.1.d.ops≤k.d.ops+3:=by
    have hmi:=hk.mayImg
    have hbl:(recB (imgB (headG k.g.segs) k.ts)).length≤400000:=by rw[recB_len];have:=imgB_len hmi;omega
    obtain⟨a,b⟩:=drawD_ok (f:=otherI k) (b:=recB (imgB (headG k.g.segs) k.ts)) hk.d
    have:k.drawS.1.d=(drawD k.d (otherI k) (recB (imgB (headG k.g.segs) k.ts))).1:=by unfold PSrc.drawS;simp only;split<;>rfl
    rw[this]
    exact⟨a.mono (by omega),b⟩
   generalize k.drawS=r at *
   obtain⟨k2,e⟩:=r
   simp only at hg2 hd2 hS ⊢
   repeat first|refine Gp ?_|refine Gw λw hS=>?_|refine Gb λb w hS=>?_
   refine zd (λhe=>?_) (λhe=>?_)
   ·rw[if_pos he]
    exact⟨_,⟨rfl,H',hh,rfl⟩,SL.into hS Xi⟩
   ·rw[if_neg he]
    have hS:=SrcO.iff.1 hS
    repeat first|refine Gp ?_|refine Gw λw hS=>?_|refine Gb λb w hS=>?_
    (apply za (yH lp dp k2.g k2.d lsn (by rw[hg2];exact hk.g.ok) (by omega) hd2.1 (by rw[hg2];omega)) hS;exact Xp;clear hS)
    (rintro v post ⟨rfl,rfl⟩ w hS;(try simp only[app]at hS);(repeat (first|refine Gp ?_|refine Gw λw hS=>?_|refine Gb λb w hS=>?_)))
    exact⟨_,⟨rfl,H',hh,rfl⟩,SL.into (SrcO.putN (d:=(trimG k2.g k2.d lsn).1.2) hS Xp) Xi⟩
  ·rw[if_neg h3]
   simp only
   rw[if_neg (by simp)]
   repeat first|refine Gp ?_|refine Gw λw hS=>?_|refine Gb λb w hS=>?_
   (apply za (yH lp dp k.g k.d lsn hk.g.ok (by omega) hk.d (by omega)) hS;exact Xp;clear hS)
   (rintro v post ⟨rfl,rfl⟩ w hS;(try simp only[app]at hS);(repeat (first|refine Gp ?_|refine Gw λw hS=>?_|refine Gb λb w hS=>?_)))
   exact⟨_,⟨rfl,H,Heap.le_refl H,rfl⟩,SL.into (SrcO.putN (d:=(trimG k.g k.d lsn).1.2) hS Xp) Xi⟩
theorem foldR_succ(t:Int)(l:List TxnD)(i:Nat)(h:i<l.length):foldR t (l.take (i+1))=(l[i].changes).foldl (appR t) (foldR t (l.take i)):=by
 unfold foldR
 rw[List.take_succ_eq_append_getElem h,List.flatMap_append,List.foldl_append];simp
def okT(l:List TxnD):Prop:=∀t∈l,∀c∈t.changes,inI64 c.key
theorem okT.fold{l:List TxnD}(h:okT l)(t:Int)(i:Nat):okR (foldR t (l.take i)):=
 okR_foldl okR_nil t λc hc=>by
  obtain⟨x,hx,hc⟩:=List.mem_flatMap.1 hc
  exact h x (List.mem_of_mem_take hx) c hc
def Wlk(wp:Nat)(lv:Value)(tb:Int)(at_:Nat)(C:List Row):zx:=HEx λx:Nat × List (Int × ByteArray)=>zN (RelR x.2 C)
 [.pt wp [.int .i64 at_,lv,.int .i64 tb,.map (some x.1)] 273,.ob (MapO KI Value.string x.1 x.2)]
theorem Wlk.iff{W w:World}{wp:Nat}{lv:Value}{tb:Int}{at_:Nat}{C:List Row}{l:List Chunk}:SL W (.ob (Wlk wp lv tb at_ C)::l) w↔∃(b:Nat) (m:List (Int × ByteArray)),RelR m C ∧
  SL W (.pt wp [.int .i64 at_,lv,.int .i64 tb,.map (some b)] 273::.ob (MapO KI Value.string b m)::l) w:=by
 unfold Wlk
 simp only[SL.ex,SL.fact,List.cons_append,List.nil_append]
 constructor
 ·rintro ⟨⟨b,m⟩,h1,h2⟩;exact⟨b,m,h1,h2⟩
 ·rintro ⟨b,m,h1,h2⟩;exact⟨⟨b,m⟩,h1,h2⟩
theorem Z4(a:Option Addr)(n cap:Nat)(tb:Int):SP 109 [.slice a n cap,.int .i64 tb] [] (λv post=>∃wp:Nat,v= .pointer (some ⟨wp,0,none⟩)∧post=[.ob (Wlk wp (.slice a n cap) tb 0 [])]):=by
 intro W F w hS;apply vc109;unfold Vc109;(try simp only[app]at hS)
 refine s_mapMk (key:=KI) (val:=Value.string) (p:=λb w'=>zr [.int .i64 0,.slice none 0 0,.int .i64 0,.map none] [(1,1,.slice a n cap),(2,1,.int .i64 tb),(3,1,(.map (some b)))] λv8=>
  ∃cs:List Value,v8= .agg cs.toArray∧zl cs 273 w' _) hS ?_
 clear hS;intro b w hS
 refine yW (cells:=[.int .i64 0,.slice a n cap,.int .i64 tb,.map (some b)]) (by simp[fillL,Value.cells]) ?_
 refine⟨_,rfl,zW hS ?_⟩
 clear hS;intro wp w hS
 exact⟨_,⟨wp,rfl,rfl⟩,Wlk.iff.2 ⟨b,[],RelR.nil,hS⟩⟩
theorem Z8(wp:Nat)(i:Nat)(cs:List Value)(hi:i<140737488355328):SP 190 [.pointer (some ⟨wp,0,none⟩)] [.pt wp (.int .i64 i::cs) 273] (Gives (.tuple #[]) [.pt wp (.int .i64 (i+1:Nat)::cs) 273]):=by
 intro W F w hS;apply vc190;unfold Vc190;(try simp only[app]at hS)
 repeat first|refine Gp ?_|refine Gw λw hS=>?_|refine Gb λb w hS=>?_
 (exact⟨_,⟨rfl,rfl⟩,SL.into hS Xi⟩)
theorem Ya(k:Int)(n:Nat):SP 111 [.int .i64 k,.int .i64 n] [] (Gives (.int .i64 (heldN k n:Nat)) []):=by
 intro W F w hS;apply vc111;unfold Vc111;(try simp only[app]at hS)
 repeat first|refine Gp ?_|refine Gw λw hS=>?_|refine Gb λb w hS=>?_
 rw[heldN_eq]
 (exact⟨_,⟨rfl,rfl⟩,SL.into hS Xi⟩)
theorem to_spec(H:Heap)(wp:Nat)(lv:Value)(l:List TxnD)(tb:Int)(i0 k:Nat)(hl:RdTx H lv l)(hk:k≤l.length)(hn:l.length≤140737488351232)(hc:∀t∈l,t.changes.length≤140737488351232)(ok:okT l):
  SP 110 [.pointer (some ⟨wp,0,none⟩),.int .i64 k] [.mem H,.ob (Wlk wp lv tb i0 (foldR tb (l.take i0)))] (Gives (.tuple #[]) [.mem H,.ob (Wlk wp lv tb (max i0 k) (foldR tb (l.take (max i0 k))))]):=by
 intro W F w hS;apply vc110;unfold Vc110;(try simp only[app]at hS)
 obtain⟨xs,hxl,hxv,hxs⟩:=hl
 obtain⟨b,m0,hm0,hS⟩:=Wlk.iff.1 (SL.into hS (t:=.ob (Wlk wp lv tb i0 (foldR tb (l.take i0)))::.mem H::F) Xi)
 refine⟨λvs w=>vs=[]∧∃(i:Nat) (m:List (Int × ByteArray)),i0≤i∧i≤max i0 k∧RelR m (foldR tb (l.take i))∧SL W (.pt wp [.int .i64 i,lv,.int .i64 tb,.map (some b)] 273::.ob (MapO KI Value.string b m)::.mem H::F) w,
  λ_ w=>match w.cell? ⟨wp,0,none⟩ with|some (.int _ i)=>(k-i).toNat|_=>0,⟨rfl,i0,m0,Nat.le_refl _,by omega,hm0,hS⟩,?_⟩
 clear hS hm0
 rintro w ⟨-,i,m,hi1,hi2,hm,hS⟩
 have hcell:=hS.cell (.hd) (o:=0) (v:=.int .i64 i) rfl
 repeat first|refine Gp ?_|refine Gw λw hS=>?_|refine Gb λb w hS=>?_
 refine zd (λh=>?_) (λh=>?_)
 ·have hil:i<l.length:=by omega
  have hix:i<xs.length:=by omega
  have hxi:=hxs i hil hix
  have hcl:=hc _ (List.getElem_mem hil)
  have hokc:=ok _ (List.getElem_mem hil)
  have hf:=foldR_succ tb l i hil
  refine yb hS ?_
  clear hS;intro w hS
  repeat first|refine Gp ?_|refine Gw λw hS=>?_|refine Gb λb w hS=>?_
  refine Y1 hS Xh encTx_len hxv (x:=xs[i]) (by simp[hix]) hil (i:=2) rfl ?_
  have hcv:=hxi.cv
  generalize l[i].changes=cs at hcv hcl hokc hf
  generalize xs[i].cv=cv at hcv
  refine zp hcv ?_
  have hok0:=ok.fold tb i
  generalize foldR tb (l.take i)=C0 at hm hf hok0
  refine⟨λvs w=>∃(j:Nat) (m2:List (Int × ByteArray)),vs=[.int .i64 j]∧j≤cs.length∧RelR m2 ((cs.take j).foldl (appR tb) C0)∧SL W (.pt wp [.int .i64 i,lv,.int .i64 tb,.map (some b)] 273::.ob (MapO KI Value.string b m2)::.mem H::F) w,
   λvs _=>match vs with|[.int _ j]=>(cs.length-j).toNat|_=>0,⟨0,m,rfl,by omega,hm,hS⟩,?_⟩
  clear hS hm
  rintro v26 w ⟨j,m2,hvs,hj,hm,hS⟩
  cases hvs
  repeat first|refine Gp ?_|refine Gw λw hS=>?_|refine Gb λb w hS=>?_
  refine zd (λh2=>?_) (λh2=>?_)
  ·have hjl:j<cs.length:=by omega
   have hx:cs[j]?=some cs[j]:=by simp[hjl]
   have hkj:=hokc _ (List.getElem_mem hjl)
   have hsn:(cs.take (j+1)).foldl (appR tb) C0=appR tb ((cs.take j).foldl (appR tb) C0) cs[j]:=by rw[List.take_succ_eq_append_getElem hjl,List.foldl_append];rfl
   have hokj:okR ((cs.take j).foldl (appR tb) C0):=okR_foldl hok0 tb λc hc=>hokc c (List.mem_of_mem_take hc)
   refine zL hS Xh encChg_len hcv hx hjl ?_
   generalize cs[j]=c at hkj hsn
   obtain⟨table,key,gone,val⟩:=c
   simp only[encChg]
   refine zW hS ?_
   clear hS;intro p w hS
   refine yx (vs:=[.int .i64 table,.int .i64 key,.bool gone,.string val]) hS Xu rfl rfl (encChg_one ⟨table,key,gone,val⟩) ?_
   clear hS;intro w hS
   refine yb hS ?_
   clear hS;intro w hS
   repeat first|refine Gp ?_|refine Gw λw hS=>?_|refine Gb λb w hS=>?_
   refine zd (λh3=>?_) (λh3=>?_)
   ·have ha:appR tb ((cs.take j).foldl (appR tb) C0) ⟨table,key,gone,val⟩=(cs.take j).foldl (appR tb) C0:=by unfold appR;rw[if_neg h3]
    rw[ha]at hsn
    repeat first|refine Gp ?_|refine Gw λw hS=>?_|refine Gb λb w hS=>?_
    exact⟨⟨j+1,m2,rfl,by omega,by rw[hsn];exact hm,SL.into hS Xi⟩,by dsimp only;omega⟩
   ·have h3':table=tb:=by omega
    repeat first|refine Gp ?_|refine Gw λw hS=>?_|refine Gb λb w hS=>?_
    cases gone with
    | true=>
     have ha:appR tb ((cs.take j).foldl (appR tb) C0) ⟨table,key,true,val⟩=delR ((cs.take j).foldl (appR tb) C0) key:=by unfold appR;simp[h3']
     rw[ha]at hsn
     refine zs ?_
     refine yb hS ?_
     clear hS;intro w hS
     repeat first|refine Gp ?_|refine Gw λw hS=>?_|refine Gb λb w hS=>?_
     refine ZZ (key:=KI) (val:=Value.string) hS Xu (keyOkI .i64) Tryz.underlying269 Tryz.underlying2 ?_
     clear hS;intro u w hS
     repeat first|refine Gp ?_|refine Gw λw hS=>?_|refine Gb λb w hS=>?_
     exact⟨⟨j+1,mdel m2 key,rfl,by omega,by rw[hsn];exact hm.del hokj.1 key,SL.into hS Xi⟩,by dsimp only;omega⟩
    | false=>
     have ha:appR tb ((cs.take j).foldl (appR tb) C0) ⟨table,key,false,val⟩=insR ((cs.take j).foldl (appR tb) C0) ⟨key,val⟩:=by unfold appR;simp[h3']
     rw[ha]at hsn
     refine zo ?_
     refine yb hS ?_
     clear hS;intro w hS
     repeat first|refine Gp ?_|refine Gw λw hS=>?_|refine Gb λb w hS=>?_
     refine Z0 (key:=KI) (val:=Value.string) hS Xu (keyOkI .i64) Tryz.underlying269 Tryz.underlying2 ?_
     clear hS;intro u w hS
     repeat first|refine Gp ?_|refine Gw λw hS=>?_|refine Gb λb w hS=>?_
     exact⟨⟨j+1,mset m2 key val,rfl,by omega,by rw[hsn];exact hm.put key val,SL.into hS Xi⟩,by dsimp only;omega⟩
  ·obtain rfl:j=cs.length:=by omega
   rw[List.take_length,← hf]at hm
   repeat first|refine Gp ?_|refine Gw λw hS=>?_|refine Gb λb w hS=>?_
   (apply za (Z8 wp i [lv,.int .i64 tb,.map (some b)] (by omega)) hS;exact Xp;clear hS)
   rintro v59 post ⟨rfl,rfl⟩ w hS
   (try simp only[app]at hS)
   have hcell2:=hS.cell (.hd) (o:=0) (v:=.int .i64 (i+1:Nat)) rfl
   refine⟨⟨rfl,i+1,m2,by omega,by omega,hm,SL.into hS Xi⟩,?_⟩
   simp only[hcell,hcell2]
   omega
 ·obtain rfl:max i0 k=i:=by omega
  have hS:=Wlk.iff.2 ⟨b,m,hm,hS⟩
  (exact⟨_,⟨rfl,rfl⟩,SL.into hS Xi⟩)
theorem all_specF(wp:Nat)(lv:Value)(tb:Int)(i:Nat)(C:List Row)(ok:okR C)(hB:C.length≤1000000):SP 112 [.pointer (some ⟨wp,0,none⟩)] [.ob (Wlk wp lv tb i C)]
  (λv post=>post=[.ob (Wlk wp lv tb i C),.ob (OwnSl v 52 2 C.length (C.map encRow).flatten)]):=by
 intro W F w hS;apply vc112;unfold Vc112;(try simp only[app]at hS)
 obtain⟨b,m,hm,hS⟩:=Wlk.iff.1 hS
 have hml:=hm.len ok.1
 repeat first|refine Gp ?_|refine Gw λw hS=>?_|refine Gb λb w hS=>?_
 refine s_keysT (val:=Value.string) hS Xh (by omega) (hm.wf ok) ?_
 clear hS;intro v w hS
 rw[hm.skeys ok.1,hml]at hS
 refine zz hS .hd ?_
 refine⟨λvs w=>∃(k:Nat) (u:Value),vs=[u,.int .i64 k]∧k≤C.length∧SL W (.ob (OwnSl u 52 2 k (((C.take k).map encRow).flatten))::.ob (OwnSl v 2 1 C.length ((C.map (·.key)).map KI))::.pt wp [.int .i64 i,lv,.int .i64 tb,.map (some b)] 273::.ob (MapO KI Value.string b m)::F) w,λvs _=>match vs with|[_,.int _ k]=>(C.length-k).toNat|_=>0,⟨0,_,rfl,by omega,OwnSl.nil hS⟩,?_⟩
 clear hS
 rintro v5 v25 w ⟨k,u,hvs,hk,hS⟩
 cases hvs
 repeat first|refine Gp ?_|refine Gw λw hS=>?_|refine Gb λb w hS=>?_
 refine zd (λh=>?_) (λh=>?_)
 ·have hk2:k<C.length:=by omega
  refine zQ hS (.tl .hd) hk2 (u:=KI C[k].key) (by simp[hk2]) ?_
  repeat first|refine Gp ?_|refine Gw λw hS=>?_|refine Gb λb w hS=>?_
  refine ym (z:=.string ⟨#[]⟩) hS Xh (keyOkI .i64) Tryz.underlying269 Tryz.underlying2 Tryz.zeroValue9 ?_
  rw[hm.get,getR_mem ok.1 (List.getElem_mem hk2)]
  simp only[Option.map_some,Option.getD_some]
  repeat first|refine Gp ?_|refine Gw λw hS=>?_|refine Gb λb w hS=>?_
  refine zE (n:=k) (m:=1) hS Xr (src_pt0 (cs:=encRow C[k]) hS .hd rfl) rfl rfl (encRow_one _) (by omega) (by omega) ?_
  clear hS;intro u' w hS
  repeat first|refine Gp ?_|refine Gw λw hS=>?_|refine Gb λb w hS=>?_
  refine⟨⟨k+1,u',rfl,(by omega),(by rw[flat_take encRow _ k hk2];exact SL.into hS Xi)⟩,(by dsimp only;omega)⟩
 ·obtain rfl:k=C.length:=by omega
  rw[List.take_length]at hS
  have hS:SL W (.ob (Wlk wp lv tb i C)::.ob (OwnSl v5 52 2 C.length (C.map encRow).flatten)::F) w:=Wlk.iff.2 ⟨b,m,hm,by exact SL.into hS Xi⟩
  exact⟨_,rfl,hS⟩
theorem RdTx.slice{H:Heap}{v:Value}{l:List TxnD}(h:RdTx H v l):∃a cap,v= .slice a l.length cap:=by
 obtain⟨xs,_,h2,_⟩:=h
 obtain⟨_,a,cap,hv,_⟩:=h2
 exact⟨a,cap,hv⟩
structure RdRows(H:Heap)(v:Value)(Ts:List (List Row))(us:List Value):Prop where
 len:us.length=Ts.length
 out:RdSl H 1 v Ts.length us
 each:∀i (h:i<Ts.length) (h':i<us.length),RdSl H 2 us[i] Ts[i].length (Ts[i].map encRow).flatten
def tabs(n:Int)(l:List TxnD)(k:Int):List (List Row):=if n<1∨8<n then [] else (List.range n.toNat).map λt:Nat=>foldR t (l.take (heldN k l.length))
theorem Z7(H:Heap)(lv:Value)(l:List TxnD)(n k:Int)(hl:RdTx H lv l)(hn:l.length≤140737488351232)(hc:∀t∈l,t.changes.length≤140737488351232)(ok:okT l)(hB:∀tb i,(foldR tb (l.take i)).length≤1000000):
  SP 39 [.int .i64 n,lv,.int .i64 k] [.mem H] (λv post=>∃H' us,H.le H'∧RdRows H' v (tabs n l k) us∧post=[.mem H']):=by
 intro W F w hS;apply vc39;unfold Vc39;(try simp only[app]at hS)
 repeat first|refine Gp ?_|refine Gw λw hS=>?_|refine Gb λb w hS=>?_
 have hnil:n<1∨8<n→RdRows H (.slice none 0 0) (tabs n l k) []:=λh=>by
  unfold tabs;rw[if_pos h];exact⟨rfl,RdSl.nil H 1,λi h=>by simp at h⟩
 refine zd (λh1=>⟨_,⟨H,[],Heap.le_refl H,hnil (.inl h1),rfl⟩,hS⟩) (λh1=>?_)
 repeat first|refine Gp ?_|refine Gw λw hS=>?_|refine Gb λb w hS=>?_
 refine zd (λh2=>⟨_,⟨H,[],Heap.le_refl H,hnil (.inr h2),rfl⟩,hS⟩) (λh2=>?_)
 clear hnil
 obtain⟨N,rfl⟩:∃N:Nat,n=N:=⟨n.toNat,by omega⟩
 have htab:tabs N l k=(List.range N).map λt:Nat=>foldR t (l.take (heldN k l.length)):=by unfold tabs;rw[if_neg (by omega)];simp
 rw[htab]
 refine⟨λvs w=>∃(t:Nat) (u:Value) (us:List Value) (H2:Heap),vs=[u,.int .i64 t]∧t≤N∧us.length=t∧H.le H2∧(∀i (h:i<t) (h':i<us.length),RdSl H2 2 us[i] (foldR i (l.take (heldN k l.length))).length ((foldR i (l.take (heldN k l.length))).map encRow).flatten) ∧
   SL W (.ob (OwnSl u 53 1 t us)::.mem H2::F) w,λvs _=>match vs with|[_,.int _ t]=>(N-t).toNat|_=>0,⟨0,_,[],H,rfl,by omega,rfl,Heap.le_refl H,λi h=>by omega,OwnSl.nil hS⟩,?_⟩
 clear hS
 rintro v7 v17 w ⟨t,u,us,H2,hvs,ht,hus,hH,hrows,hS⟩
 cases hvs
 obtain⟨x,cap,rfl⟩:=hl.slice
 repeat first|refine Gp ?_|refine Gw λw hS=>?_|refine Gb λb w hS=>?_
 refine zd (λh3=>?_) (λh3=>?_)
 ·(apply za (Z4 x l.length cap t) hS;exact Xp;clear hS)
  rintro v post ⟨wp,rfl,rfl⟩ w hS
  (try simp only[app]at hS)
  repeat first|refine Gp ?_|refine Gw λw hS=>?_|refine Gb λb w hS=>?_
  (apply za (Ya k l.length) hS;exact Xp;clear hS)
  (rintro v post ⟨rfl,rfl⟩ w hS;(try simp only[app]at hS);(repeat (first|refine Gp ?_|refine Gw λw hS=>?_|refine Gb λb w hS=>?_)))
  have hle:=heldN_le k l.length
  generalize heldN k l.length=i at hle hrows ⊢
  have hto:=to_spec H2 wp (.slice x l.length cap) l t 0 i (hl.mono hH) hle hn hc ok
  rw[show max 0 i=i by omega,show foldR t (l.take 0)=[] by rfl]at hto
  (apply za (hto) hS;exact Xp;clear hS)
  rintro v post ⟨rfl,rfl⟩ w hS
  (try simp only[app]at hS)
  (apply za (all_specF wp (.slice x l.length cap) t i (foldR t (l.take i)) (ok.fold t i) (hB t i)) hS;exact Xp;clear hS)
  rintro v31 post rfl w hS
  (try simp only[app]at hS)
  obtain⟨H3,h23,hR,hS⟩:=zw (H:=H2) (v:=v31) hS Xp
  have h1c:=hR.one
  refine zy (cells:=[v31]) hS (by obtain⟨_,a',cap',rfl,_⟩:=hR;simp[fillL,zrow,Value.cells]) ?_
  clear hS;intro b w hS
  refine zE (n:=t) (m:=1) hS Xr (src_pt0 (cs:=[v31]) hS .hd rfl) rfl rfl (by simpa using h1c) (by omega) (by omega) ?_
  clear hS;intro u' w hS
  repeat first|refine Gp ?_|refine Gw λw hS=>?_|refine Gb λb w hS=>?_
  refine⟨⟨t+1,u',us++[v31],H3,rfl,by omega,by simp[hus],Heap.le_trans hH h23,λj hj hj'=>?_,SL.into hS Xi⟩,by dsimp only;omega⟩
  rcases Nat.lt_or_ge j t with hjt|hjt
  ·rw[List.getElem_append_left (by omega)];exact (hrows j hjt (by omega)).mono h23
  ·obtain rfl:j=t:=by omega
   rw[List.getElem_append_right (by omega)];simpa [hus] using hR
 ·obtain rfl:t=N:=by omega
  obtain⟨H3,h23,hR,hS⟩:=zw (H:=H2) (v:=v7) hS Xp
  refine⟨_,⟨H3,us,Heap.le_trans hH h23,⟨by simp[hus],by simpa using hR,λi h h'=>?_⟩,rfl⟩,hS⟩
  simp only[List.getElem_map,List.getElem_range]
  exact (hrows i (by simpa using h) h').mono h23
theorem fold_len'(l:List TxnD)(tb:Int)(i:Nat):(foldR tb (l.take i)).length≤(l.flatMap (·.changes)).length:=by
 have h2:=len_foldl (l:=(l.take i).flatMap (·.changes)) [] tb
 have e:(l.flatMap (·.changes)).length=((l.take i).flatMap (·.changes)).length+((l.drop i).flatMap (·.changes)).length:=by
  have:l=l.take i++l.drop i:=by simp
  conv=>lhs;rw[this]
  simp only[List.flatMap_append,List.length_append]
 unfold foldR
 simp only[List.length_nil]at h2
 omega
theorem open00{base size:Int}(b0:0≤base)(b1:base≤12288)(s0:64≤size)(s1:size≤65536):openG s00 base size=(s00,.ok ⟨[],base,size,none⟩):=
 open_chain (L:=[]) (f:=base) (n:=1) trivial rfl rfl b0 b1 s0 s1 (Int.le_refl _) (by simp;omega) (by decide) (by simp[entsG])
theorem linv00{base size:Int}(b0:0≤base)(b1:base≤12288)(s0:64≤size)(s1:size≤65536):LInv ⟨[],base,size,none⟩ s00 base 1 []:=
 ⟨trivial,rfl,rfl,λ_=>⟨rfl,rfl⟩,Int.le_refl _,b0,b1,s0,s1,by decide,by show base+((0:Nat):Int)+2≤base+4096;omega,rfl,rfl⟩
theorem ok00{base size:Int}(b0:0≤base)(b1:base≤12288)(s0:64≤size)(s1:size≤65536):(⟨[],base,size,none⟩:PLog).Ok 0:=⟨by simp,b0,b1,s0,s1,Nat.le_refl _⟩
structure Few(n:Nat)(all:List TxnD):Prop where
 ok:TxsOk n all
 len:all.length≤1000
 chs:(all.flatMap (·.changes)).length≤1000
theorem Few.nil(n:Nat):Few n []:=⟨⟨by simp,λi h=>by simp at h,by simp⟩,by decide,by decide⟩
theorem Few.take{n:Nat}{all:List TxnD}(h:Few n all)(j:Nat):Few n (all.take j):=by
 refine⟨⟨λt ht=>h.ok.may t (List.mem_of_mem_take ht),λi hi=>?_,λt ht=>h.ok.ch t (List.mem_of_mem_take ht)⟩,by rw[List.length_take];have:=h.len;omega,?_⟩
 ·rw[List.getElem_take];exact h.ok.lsn i _
 ·have e:(all.flatMap (·.changes)).length=((all.take j).flatMap (·.changes)).length+((all.drop j).flatMap (·.changes)).length:=by
   conv=>lhs;rw[← List.take_append_drop j all]
   rw[List.flatMap_append,List.length_append]
  have:=h.chs
  omega
theorem Few.row{n:Nat}{all:List TxnD}(h:Few n all):∀C∈tabsN n all,C.length≤1000:=λC hC=>by
 unfold tabsN at hC
 obtain⟨t,_,rfl⟩:=List.mem_map.1 hC
 have:=fold_len' all (t:Int) all.length
 rw[List.take_length]at this
 have:=h.chs
 omega
theorem Few.rows{n:Nat}{all:List TxnD}(h:Few n all):∀C∈tabsN n all,RowsOk C:=tabsN_ok h.ok.may h.ok.ch
theorem Few.imgs{n:Nat}{all:List TxnD}(h:Few n all)(n1:1≤n)(n8:n≤8):ImgsOk n all:=λj hj=>by
 have ht:=h.take j
 have hl:=h.len
 refine mayImg_iff.2 ⟨⟨by omega,by omega,by rw[tabsN_len];exact n1,by rw[tabsN_len];exact n8⟩,λC hC=>⟨(ht.rows C hC).sorted,(ht.rows C hC).rows,ht.row C hC⟩⟩
theorem Few.fits{n:Nat}{all:List TxnD}{t:TxnD}(h:Few n (all++[t])):fitsTs (tabsN n all) t.changes=true:=by
 have hc:=h.ok.ch t (by simp)
 have hr:=h.row
 rw[← tabsN_add hc]at hr
 unfold fitsTs
 rw[Bool.and_eq_true,List.all_eq_true,List.all_eq_true]
 exact⟨λc hcl=>by rw[tabsN_len];exact hc c hcl,λC hC=>decide_eq_true (hr C hC)⟩
theorem Few.app{n:Nat}{all:List TxnD}(h:Few n all){t:TxnD}(hm:mayTx t=true)(hl:t.lsn=(all.length:Int)+1)(hc:∀c∈t.changes,chgIn n c=true)(h1:all.length+1≤1000)(h2:(all.flatMap (·.changes)).length+t.changes.length≤1000):Few n (all++[t]):=by
 refine⟨⟨λx hx=>?_,λi hi=>?_,λx hx=>?_⟩,by rw[List.length_append];exact h1,by rw[List.flatMap_append,List.length_append];simpa using h2⟩
 ·rcases List.mem_append.1 hx with hx|hx
  ·exact h.ok.may x hx
  ·rw[List.mem_singleton.1 hx];exact hm
 ·rw[List.getElem_append]
  split
  ·exact h.ok.lsn i _
  ·rename_i hn
   rw[List.length_append,List.length_singleton]at hi
   simp only[List.getElem_singleton]
   rw[hl];omega
 ·rcases List.mem_append.1 hx with hx|hx
  ·exact h.ok.ch x hx
  ·rw[List.mem_singleton.1 hx];exact hc
theorem SOk.mono{k:PSrc}{N M:Nat}(h:SOk k N)(hm:N≤M):SOk k M:=⟨h.g.mono hm,h.d.mono hm,h.rows,h.len,h.n1,h.n8⟩
theorem SOk.add{k:PSrc}{N:Nat}(h:SOk k N){t:TxnD}(hm:mayTx t=true):SOk (k.addS t).1 (N+2000):=by
 unfold PSrc.addS
 split
 ·exact h.mono (by omega)
 ·split
  ·exact h.mono (by omega)
  ·rename_i ho hf
   have hhd:=headG_ge h.g.ok.segs
   have hm2:=mayTx_lsn hm (n:=headG k.g.segs+1) (by omega) (by omega)
   have hl:=bytesTx_len hm2
   have hb:(bytesT {t with lsn:=headG k.g.segs+1}).length≤1200:=hl
   have hg:=appendG_GOk (d:=k.d) h.g (bytesT {t with lsn:=headG k.g.segs+1})
   have hd:=appendG_ok (g:=k.g) h.d (bytesT {t with lsn:=headG k.g.segs+1})
   generalize bytesT {t with lsn:=headG k.g.segs+1}=p at *
   have hfit:fitsTs k.ts t.changes=true:=by
    cases hq:fitsTs k.ts t.changes with
    | true=>rfl
    | false=>exact absurd (Or.inl hq) hf
   simp only
   split
   ·unfold fitsTs at hfit
    rw[Bool.and_eq_true,List.all_eq_true,List.all_eq_true]at hfit
    refine⟨hg.mono (by omega),hd.mono (by omega),appsTs_ok (k:=8) h.rows (mayTx_all hm).2.2.2.2.2.1 hfit.1,λC hC=>of_decide_eq_true (hfit.2 C hC),?_,?_⟩
    ·show 1≤(appsTs k.ts t.changes).length
     rw[appsTs_len];exact h.n1
    ·show (appsTs k.ts t.changes).length≤8
     rw[appsTs_len];exact h.n8
   ·exact⟨hg.mono (by omega),hd.mono (by omega),h.rows,h.len,h.n1,h.n8⟩
theorem SOk.commit{k:PSrc}{N:Nat}(h:SOk k N)(sg:List ByteArray)(l:List Chg):SOk (k.commitS sg l).1 (N+2000):=by
 unfold PSrc.commitS
 split
 ·rename_i hc;exact h.add hc.1
 ·exact h.mono (by omega)
def k00(n:Nat)(size:Int):PSrc:=⟨⟨[],16,size,none⟩,s00,List.replicate n [],-1,0⟩
theorem sopen00{n:Nat}(n1:1≤n)(n8:n≤8){size:Int}(s0:64≤size)(s1:size≤65536):openS s00 n size=(s00,.ok (k00 n size))∧SrcL n (k00 n size) [] 0 [] s00 16 0 0:=by
 have him:ImSt n [] [] (-1) 0:=⟨.nil,by simp,by simp,λ_=>rfl,.inl rfl,Nat.le_refl _,λh=>absurd rfl h,by simp⟩
 have hw:Win 16 4112 [] [] s00.R:=⟨by simp,by simp[s00],by simp⟩
 have:=openS_ok n1 n8 (Few.nil n).ok ((Few.nil n).imgs n1 n8) (I:=[]) (tr:=0) (open00 (base:=16) (by decide) (by decide) s0 s1) hw (linv00 (by decide) (by decide) s0 s1) rfl him (Nat.le_refl _) (Nat.le_refl _) (by decide)
 rw[tabsN_nil]at this
 exact this
theorem sok00{n:Nat}(n1:1≤n)(n8:n≤8){size:Int}(s0:64≤size)(s1:size≤65536):SOk (k00 n size) 0:=
 ⟨⟨ok00 (by decide) (by decide) s0 s1,trivial,show (0:Int)≤1099511627776 by decide,λx hx=>by cases hx⟩,s00_ok 0,λC hC=>by rw[(List.mem_replicate.1 hC).2];exact rowsOk_nil,λC hC=>by rw[(List.mem_replicate.1 hC).2];exact Nat.zero_le _,by show 1≤(List.replicate n []).length;rw[List.length_replicate];exact n1,by show (List.replicate n []).length≤8;rw[List.length_replicate];exact n8⟩
theorem SrcL.read{n:Nat}{k:PSrc}{all:List TxnD}{tr:Nat}{I:List PF}{d0:DS}{f:Int}{lo m:Nat}(h:SrcL n k all tr I d0 f lo m)(ho:∀t∈all,mayTx t=true){j:Nat}(h1:lo≤j)(h2:j<all.length):k.readS ((j:Int)+1)= .ok all[j]:=by
 unfold PSrc.readS
 rw[h.log.chain.read,if_pos (by omega),h.log.ents]
 have e:(((j:Int)+1-((lo:Int)+1)).toNat)=j-lo:=by omega
 have e2:((all.drop lo).map bytesT)[j-lo]?=some (bytesT all[j]):=by
  rw[List.getElem?_map,List.getElem?_drop,show lo+(j-lo)=j by omega,List.getElem?_eq_getElem h2];rfl
 rw[e,e2]
 exact bytesTx_dec (ho _ (List.getElem_mem h2))
theorem SrcL.segs{n:Nat}{k:PSrc}{all:List TxnD}{tr:Nat}{I:List PF}{d0:DS}{f:Int}{lo m:Nat}(h:SrcL n k all tr I d0 f lo m):k.g.segs.length≤all.length+1:=by
 have:=h.log.chain.len_le
 rw[h.log.ents,List.length_map,List.length_drop]at this
 omega
structure KL(n i tr N M:Nat)(AL:List TxnD)(k:PSrc):Prop where
 len:AL.length=i
 few:Few n AL
 live:∃I d0 f lo m,SrcL n k AL tr I d0 f lo m
 off:k.d.off=false
 arm:0≤k.d.arm
 ok:SOk k N
 ops:k.d.ops≤M
 full:∀s∈k.g.segs,s.l≠[]
def KE(n told tr:Nat)(AL:List TxnD)(d:DS):Prop:=∃all t I I' d0 g f lo m nw,SrcD n d all t tr I I' d0 g f lo m nw∧all.length=told∧((t=none∧AL=all)∨∃x,t=some x∧AL=all++[x])∧Few n AL∧d.Ok 20000000∧d.ops≤80000
theorem KL.mono{n i tr N M N' M':Nat}{AL:List TxnD}{k:PSrc}(h:KL n i tr N M AL k)(hN:N≤N')(hM:M≤M'):KL n i tr N' M' AL k:=⟨h.len,h.few,h.live,h.off,h.arm,h.ok.mono hN,by have:=h.ops;omega,h.full⟩
theorem KL.commit{n i tr N M:Nat}{AL:List TxnD}{k:PSrc}(h:KL n i tr N M AL k)(hN:N≤19000000)(hM:M≤79000){c:List Chg}{sg:List ByteArray}(hm:mayTx ⟨1,1,c,sg,0⟩=true)(hc:∀x∈c,chgIn n x=true)(hf:Few n (AL++[⟨(i:Int)+1,1,c,sg,0⟩])):
  (∃k',k.commitS sg c=(k',((i:Int)+1,0))∧KL n (i+1) tr (N+2000) (M+2) (AL++[⟨(i:Int)+1,1,c,sg,0⟩]) k'∧(k.d.arm=0→k'.d.arm=0)) ∨
  (∃k',k.commitS sg c=(k',(0,8))∧KE n i tr (AL++[⟨(i:Int)+1,1,c,sg,0⟩]) k'.d∧k.d.arm≠0):=by
 obtain⟨I,d0,f,lo,m,hL⟩:=h.live
 have hlen:=h.len
 have hfl:=h.few.len
 have hops:=h.ops
 have hok:=h.ok.commit sg c
 subst hlen
 rcases hL.commit h.off h.arm h.few.len hm hc hf.fits h.full with ⟨k',d1,e,hL',o1,a1,a0,p1,z1,fl⟩|⟨k',d1,e,o1,a0,p1,hD⟩
 ·rw[e]at hok
  exact .inl ⟨k',e,⟨by simp,hf,⟨I,d1,f,lo,m,hL'⟩,o1,a1,hok,by omega,fl⟩,a0⟩
 ·rw[e]at hok
  exact .inr ⟨k',e,⟨AL,_,I,I,d1,k.g,f,lo,m,k.newest,hD,rfl,.inr ⟨_,rfl,rfl⟩,hf,hok.d.mono (by omega),by omega⟩,a0⟩
theorem KL.init0{n:Nat}(n1:1≤n)(n8:n≤8){size:Int}(s0:64≤size)(s1:size≤65536):KL n 0 0 0 0 [] (k00 n size):=by
 obtain⟨_,hL⟩:=sopen00 n1 n8 s0 s1
 exact⟨rfl,Few.nil n,⟨[],s00,16,0,0,hL⟩,rfl,show (0:Int)≤0 by decide,sok00 n1 n8 s0 s1,Nat.le_refl _,by simp[k00]⟩
def okRq(i:Nat)(r:Rq):Prop:=r.id=(i:Int)+1∧0≤r.table∧r.table<8∧1≤r.weight∧r.weight≤8∧1≤r.at_∧r.at_≤1099511627776∧0≤r.cursor∧r.cursor≤1099511627776∧0≤r.chunks∧r.chunks≤1099511627776
def OneP(L:List Rq)(i:Nat):Prop:=∀h:i<L.length,okRq i L[i]∧(∀h0:0<i,L[i-1].at_≤L[i].at_)∧∀k (hk:k<i),¬(L[k].table=L[i].table∧L[k].done=false)
def MayP(L:List Rq):Prop:=L.length≤64∧∀i,OneP L i
instance (i:Nat) (r:Rq):Decidable (okRq i r):=by unfold okRq;infer_instance
theorem MayP.fin{L:List Rq}:MayP L↔L.length≤64∧∀i:Fin L.length,okRq i.1 L[i.1]∧(0<i.1→(L[i.1-1]'(by omega)).at_≤L[i.1].at_)∧∀k:Fin i.1,¬((L[k.1]'(by omega)).table=L[i.1].table∧(L[k.1]'(by omega)).done=false):=
 ⟨λh=>⟨h.1,λi=>⟨(h.2 i.1 i.2).1,(h.2 i.1 i.2).2.1,λk=>(h.2 i.1 i.2).2.2 k.1 k.2⟩⟩,
  λh=>⟨h.1,λi hi=>⟨(h.2 ⟨i,hi⟩).1,(h.2 ⟨i,hi⟩).2.1,λk hk=>(h.2 ⟨i,hi⟩).2.2 ⟨k,hk⟩⟩⟩⟩
instance (L:List Rq):Decidable (MayP L):=decidable_of_iff _ MayP.fin.symm
theorem SeqG.head{L:List PSeg}(h:SeqG L)(hL:L≠[]):headG L=lowG L+(entsG L).length-1:=by
 induction L with
 | nil=>exact absurd rfl hL
 | cons s r ih=>
  cases r with
  | nil=>simp[headG,lowG,entsG,PSeg.next]
  | cons t r=>
   have h1:=ih h.2 (by simp)
   have h2:headG (s::t::r)=headG (t::r):=by simp only[headG,List.getLast?_cons_cons]
   have h3:=h.1
   rw[h2,h1,entsG_cons s (t::r),List.length_append]
   simp only[PSeg.next]at h3
   show lowG (t::r)+_-1=s.first+_-1
   have:lowG (t::r)=t.first:=rfl
   rw[this];omega
theorem SeqG.read:∀{L:List PSeg},SeqG L→∀i:Nat,readG L (lowG L+i)=(entsG L)[i]?
 | [],_,i=>by simp[readG,entsG]
 | [s],_,i=>by
  have e:lowG [s]=s.first:=rfl
  rw[e,readG,entsG_cons]
  have he:entsG []=([]:List (List UInt8)):=rfl
  rw[he,List.append_nil]
  by_cases h:i<s.l.length
  ·rw[if_pos ⟨by omega,by show s.first+i<s.first+s.l.length;omega⟩]
   congr 1;omega
  ·rw[if_neg (by rintro ⟨_,h2⟩;have h2:s.first+i<s.first+s.l.length:=h2;omega),List.getElem?_eq_none (by omega)];rfl
 | s::t::r,h,i=>by
  have e:lowG (s::t::r)=s.first:=rfl
  have e2:lowG (t::r)=t.first:=rfl
  have h1:=h.1
  simp only[PSeg.next]at h1
  rw[e,readG,entsG_cons]
  by_cases hi:i<s.l.length
  ·rw[if_pos ⟨by omega,by show s.first+i<s.first+s.l.length;omega⟩,List.getElem?_append_left hi]
   congr 1;omega
  ·rw[if_neg (by rintro ⟨_,h2⟩;have h2:s.first+i<s.first+s.l.length:=h2;omega),List.getElem?_append_right (by omega)]
   have:=SeqG.read h.2 (i-s.l.length)
   rw[e2]at this
   rw[← this]
   congr 1;omega
theorem openG_GOk{d d':DS}{base size:Int}{N:Nat}(hok:d.Ok N)(hR:d.R.length≤100000){g:PLog}(h:openG d base size=(d',.ok g)):GOk g (N+100000):=by
 have hk:=(openG_gok hok hR h).1
 unfold openG at h
 split at h
 ·cases h
 ·split at h
  ·cases h
  ·split at h
   ·cases h
   ·rename_i L wh hl
    obtain⟨k1,k2⟩:=loadsG_seq _ _ [] _ trivial (by decide) hl
    split at h
    ·cases h
    ·cases h
     exact⟨hk,k1,k2,λx hx=>by cases hx⟩
theorem inc_len:∀(l:List Nat) (a N:Nat),a≤N→l.Pairwise (· < ·)→(∀x∈l,a≤x∧x<N)→l.length+a≤N
 | [],a,N,h,_,_=>by simpa using h
 | x::l,a,N,_,hp,hx=>by
  have h1:=hx x (.head _)
  obtain⟨hp1,hp2⟩:=List.pairwise_cons.1 hp
  have:=inc_len l (x+1) N (by omega) hp2 λy hy=>⟨hp1 y hy,(hx y (.tail _ hy)).2⟩
  rw[List.length_cons];omega
theorem DS.Ok.rlen{s:DS}{N:Nat}(h:s.Ok N):s.R.length≤16384:=by
 have hs:(s.R.map λx=>x.id.toNat).Pairwise (· < ·):=by
  rw[List.pairwise_map]
  refine List.Pairwise.imp_of_mem (λ{a b} ha hb hlt=>?_) h.sorted
  have h1:=h.ids a ha
  have h2:=h.ids b hb
  have hlt:a.id<b.id:=hlt
  omega
 have:=inc_len _ 0 16384 (by decide) hs λn hn=>by
  obtain⟨x,hx,rfl⟩:=List.mem_map.1 hn
  have:=h.ids x hx
  omega
 simpa using this
def GoodQ(dp:Nat)(d:DS)(H:Heap)(n:Nat)(f:Int)(r:Value)(post:List Chunk):Prop:=∃H',H.le H'∧post=[.ob (DskO dp d),.mem H']∧match imgAt d.R n f with
 | none=>∃a b,r= .tuple #[a,b,.bool false]
 | some y=>∃v,RdTs H' v y.2∧r= .tuple #[.int .i64 y.1,v,.bool true]
theorem YD(dp:Nat)(d:DS)(H:Heap)(n:Nat)(f:Int){N:Nat}(hok:d.Ok N)(hN:N≤140737488355328):
  SP 140 [ptrA dp,.int .i64 f,.int .i64 (n:Nat)] [.ob (DskO dp d),.mem H] (GoodQ dp d H n f):=by
 intro W F w hS;apply vc140;unfold Vc140;(try simp only[app]at hS)
 (apply za (y8 dp d N hok hN f) hS;exact Xp;clear hS)
 rintro r post hq w hS
 unfold ReadQ at hq
 cases hg:getK PF.id d.R f with
 | none=>
  rw[hg]at hq
  obtain⟨rfl,rfl⟩:=hq
  have hi:imgAt d.R n f=none:=by unfold imgAt;rw[hg]
  (try simp only[app]at hS)
  repeat first|refine Gp ?_|refine Gw λw hS=>?_|refine Gb λb w hS=>?_
  refine zs ?_
  refine⟨[.ob (DskO dp d),.mem H],⟨H,Heap.le_refl H,rfl,?_⟩,SL.into hS Xi⟩
  rw[hi];exact⟨_,_,rfl⟩
 | some x=>
  rw[hg]at hq
  obtain⟨u,rfl,rfl⟩:=hq
  have hxl:=hok.len x (getK_mem hg).1
  (try simp only[app]at hS)
  repeat first|refine Gp ?_|refine Gw λw hS=>?_|refine Gb λb w hS=>?_
  refine zo ?_
  (apply za (ZS (.ob (OwnSl u 5 1 x.b.length (x.b.map u8c))) H u x.b Rdb.own (by omega)) hS;exact Xp;clear hS)
  rintro r post hq w hS
  unfold DecImQ at hq
  cases hd:decImg x.b with
  | none=>
   rw[hd]at hq
   obtain⟨rfl,H',hh,rfl⟩:=hq
   have hi:imgAt d.R n f=none:=by unfold imgAt;rw[hg];simp only;rw[hd]
   (try simp only[app]at hS)
   repeat first|refine Gp ?_|refine Gw λw hS=>?_|refine Gb λb w hS=>?_
   refine zd (λh=>absurd h (by decide)) (λ_=>?_)
   refine⟨[.ob (DskO dp d),.mem H'],⟨H',hh,rfl,?_⟩,SL.into hS Xi⟩
   rw[hi];exact⟨_,_,rfl⟩
  | some y=>
   rw[hd]at hq
   obtain⟨v,H',hh,hT,rfl,rfl⟩:=hq
   have hi:imgAt d.R n f=if y.2.length=n then some y else none:=by unfold imgAt;rw[hg];simp only;rw[hd]
   (try simp only[app]at hS)
   repeat first|refine Gp ?_|refine Gw λw hS=>?_|refine Gb λb w hS=>?_
   refine zd (λ_=>?_) (λh=>absurd rfl h)
   refine yc hT ?_
   repeat first|refine Gp ?_|refine Gw λw hS=>?_|refine Gb λb w hS=>?_
   refine⟨[.ob (DskO dp d),.mem H'],⟨H',hh,rfl,?_⟩,SL.into hS Xi⟩
   rw[hi]
   by_cases hl:y.2.length=n
   ·rw[if_pos hl,decide_eq_true (by omega)]
    exact⟨v,hT,rfl⟩
   ·rw[if_neg hl,decide_eq_false (by omega)]
    exact⟨_,_,rfl⟩
def loadAt(R:List PF)(n:Nat)(x:Img):Nat→Img
 | 0=>x
 | 1=>load1 R n 0 x
 | _=>load1 R n 1 (load1 R n 0 x)
theorem imgAt_may{R:List PF}{n:Nat}{f:Int}{y:Int × Tabs}(h:imgAt R n f=some y):mayImg y.1 y.2=true∧y.2.length=n:=by
 unfold imgAt at h
 split at h
 ·cases h
 ·split at h
  ·cases h
  ·rename_i hd
   split at h
   ·rename_i hl
    cases h
    exact⟨decImg_may hd,hl⟩
   ·cases h
theorem set_next{α:Type}{l m:List α}{i:Nat}(hi:i<l.length)(h:m.length=l.length):(l.take i++m.drop i).set i l[i]=l.take (i+1)++m.drop (i+1):=by
 rw[List.set_append_right _ _ (by rw[List.length_take];omega),List.length_take,show i-min i l.length=0 by omega,List.drop_eq_getElem_cons (by omega:i<m.length),List.set_cons_zero,List.take_succ_eq_append_getElem hi,List.append_assoc]
 rfl
theorem loadAt_s{R:List PF}{n:Nat}{x:Img}{j:Nat}(h:j≤1):loadAt R n x (j+1)=load1 R n j (loadAt R n x j):=by
 match j,h with
 | 0,_=>rfl
 | 1,_=>rfl
theorem load1_len{R:List PF}{n:Nat}{f:Int}{x:Img}(h:x.2.2.length=n):(load1 R n f x).2.2.length=n:=by
 unfold load1
 cases hi:imgAt R n f with
 | none=>exact h
 | some y=>
  simp only
  split
  ·exact h
  ·exact (imgAt_may hi).2
theorem load1_img{R:List PF}{n:Nat}{f:Int}{x:Img}(h:0≤x.2.1∧x.2.1≤1099511627776):0≤(load1 R n f x).2.1∧(load1 R n f x).2.1≤1099511627776:=by
 unfold load1
 cases hi:imgAt R n f with
 | none=>exact h
 | some y=>
  simp only
  split
  ·exact h
  ·have:=(mayImg_iff.1 (imgAt_may hi).1).1
   exact⟨this.1,this.2.1⟩
theorem YJ(sp tp dp lp:Nat)(d:DS)(H:Heap)(x0:Img)(n:Nat)(hx0:x0.2.2.length=n)(h8:n≤8){N:Nat}(hok:d.Ok N)(hN:N≤140737488355328):
  SP 56 [ptrA sp] [.pt sp (scells tp dp lp x0.1 x0.2.1) 58,.ob (TabO tp x0.2.2),.ob (DskO dp d),.mem H] (λ_ post=>∃H',H.le H'∧post=[.pt sp (scells tp dp lp (load1 d.R n 1 (load1 d.R n 0 x0)).1 (load1 d.R n 1 (load1 d.R n 0 x0)).2.1) 58,.ob (TabO tp (load1 d.R n 1 (load1 d.R n 0 x0)).2.2),.ob (DskO dp d),.mem H']):=by
 intro W F w hS;apply vc56;unfold Vc56;(try simp only[app]at hS)
 refine⟨λus w=>∃(j:Nat) (H':Heap),us=[.int .i64 j]∧j≤2∧H.le H'∧(loadAt d.R n x0 j).2.2.length=n∧SL W (.pt sp (scells tp dp lp (loadAt d.R n x0 j).1 (loadAt d.R n x0 j).2.1) 58::.ob (TabO tp (loadAt d.R n x0 j).2.2)::.ob (DskO dp d)::.mem H'::F) w,
  λus _=>match us with|[.int _ i]=>(2-i).toNat|_=>0,⟨0,H,rfl,by omega,Heap.le_refl H,hx0,hS⟩,?_⟩
 clear hS
 rintro v2 w ⟨j,H',hus,hj,hh,hxl,hS⟩
 cases hus
 repeat first|refine Gp ?_|refine Gw λw hS=>?_|refine Gb λb w hS=>?_
 refine zd (λh=>?_) (λh=>?_)
 ·have hj1:j≤1:=by omega
  have hstep:=loadAt_s (R:=d.R) (n:=n) (x:=x0) hj1
  have hfin:∀{w:World} {H2:Heap} (y:Img),load1 d.R n j (loadAt d.R n x0 j)=y→H.le H2→SL W (.pt sp (scells tp dp lp y.1 y.2.1) 58::.ob (TabO tp y.2.2)::.ob (DskO dp d)::.mem H2::F) w →
    ∃(j':Nat) (H':Heap),[Value.int .i64 ((j+1:Nat):Int)]=[.int .i64 j']∧j'≤2∧H.le H'∧(loadAt d.R n x0 j').2.2.length=n∧SL W (.pt sp (scells tp dp lp (loadAt d.R n x0 j').1 (loadAt d.R n x0 j').2.1) 58::.ob (TabO tp (loadAt d.R n x0 j').2.2)::.ob (DskO dp d)::.mem H'::F) w:=λy hy h02 hS=>by
   refine⟨j+1,_,rfl,by omega,h02,?_,?_⟩
   ·rw[hstep];exact load1_len hxl
   ·rw[hstep,hy];exact hS
  generalize hx:loadAt d.R n x0 j=x at *
  repeat first|refine Gp ?_|refine Gw λw hS=>?_|refine Gb λb w hS=>?_
  (apply za (zH tp x.2.2) hS;exact Xp;clear hS)
  (rintro v post ⟨rfl,rfl⟩ w hS;(try simp only[app]at hS);(repeat (first|refine Gp ?_|refine Gw λw hS=>?_|refine Gb λb w hS=>?_)))
  (apply za (YD dp d H' x.2.2.length j hok hN) hS;exact Xp;clear hS)
  rintro r post ⟨H2,h12,rfl,hq⟩ w hS
  (try simp only[app]at hS)
  rw[hxl]at hq
  have h02:=Heap.le_trans hh h12
  cases hi:imgAt d.R n j with
  | none=>
   rw[hi]at hq
   obtain⟨a,b,rfl⟩:=hq
   repeat first|refine Gp ?_|refine Gw λw hS=>?_|refine Gb λb w hS=>?_
   refine⟨λus w=>False,?_,λw h=>h.elim⟩
   refine zJ (zs ?_)
   repeat first|refine Gp ?_|refine Gw λw hS=>?_|refine Gb λb w hS=>?_
   exact⟨hfin x (by unfold load1;rw[hi]) h02 (SL.into hS Xi),by dsimp only;omega⟩
  | some y=>
   rw[hi]at hq
   obtain⟨v,hT,rfl⟩:=hq
   obtain⟨hmay,hyl⟩:=imgAt_may hi
   have hTs:=(mayImg_iff.1 hmay).2
   repeat first|refine Gp ?_|refine Gw λw hS=>?_|refine Gb λb w hS=>?_
   refine⟨λus w=>us=[]∧¬(0≤x.1∧y.1≤x.2.1)∧SL W (.pt sp (scells tp dp lp x.1 x.2.1) 58::.ob (TabO tp x.2.2)::.ob (DskO dp d)::.mem H2::F) w,?_,?_⟩
   ·refine zJ (zo ?_)
    repeat first|refine Gp ?_|refine Gw λw hS=>?_|refine Gb λb w hS=>?_
    refine zd (λh0=>?_) (λh0=>?_)
    ·repeat first|refine Gp ?_|refine Gw λw hS=>?_|refine Gb λb w hS=>?_
     refine zd (λh1=>?_) (λh1=>?_)
     ·repeat first|refine Gp ?_|refine Gw λw hS=>?_|refine Gb λb w hS=>?_
      exact⟨hfin x (by unfold load1;rw[hi];simp only;rw[if_pos ⟨h0,h1⟩]) h02 (SL.into hS Xi),by dsimp only;omega⟩
     ·exact⟨rfl,λh=>h1 h.2,SL.into hS Xi⟩
    ·exact⟨rfl,λh=>h0 h.1,SL.into hS Xi⟩
   clear hS
   rintro w ⟨-,hc,hS⟩
   repeat first|refine Gp ?_|refine Gw λw hS=>?_|refine Gb λb w hS=>?_
   refine yc hT ?_
   have hS:SL W (_::.ob (TabO tp (y.2.take 0++x.2.2.drop 0))::_) _:=hS
   refine⟨λus w=>∃i:Nat,us=[.int .i64 i]∧i≤y.2.length∧SL W (.ob (TabO tp (y.2.take i++x.2.2.drop i))::.pt sp (scells tp dp lp j y.1) 58::.ob (DskO dp d)::.mem H2::F) w,
    λus _=>match us with|[.int _ i]=>(y.2.length-i).toNat|_=>0,⟨0,rfl,by omega,SL.into hS Xi⟩,?_⟩
   clear hS
   rintro v54 w ⟨i,hus,hil,hS⟩
   cases hus
   repeat first|refine Gp ?_|refine Gw λw hS=>?_|refine Gb λb w hS=>?_
   refine zd (λh=>?_) (λh=>?_)
   ·have hil:i<y.2.length:=by omega
    have hnx:=set_next (m:=x.2.2) hil (by omega)
    have htl:i<(y.2.take i++x.2.2.drop i).length:=by rw[List.length_append,List.length_take,List.length_drop];omega
    have hTi:=hTs _ (List.getElem_mem hil)
    refine ZB hS Xh hT hil λu hu=>?_
    generalize y.2[i]=C at *
    generalize y.2.take i++x.2.2.drop i=T at *
    repeat first|refine Gp ?_|refine Gw λw hS=>?_|refine Gb λb w hS=>?_
    (apply za (Yv tp T H2 u i C htl hu hTi.sorted (by have:=hTi.len;omega)) hS;exact Xp;clear hS)
    (rintro v post ⟨rfl,rfl⟩ w hS;(try simp only[app]at hS);(repeat (first|refine Gp ?_|refine Gw λw hS=>?_|refine Gb λb w hS=>?_)))
    refine⟨⟨i+1,rfl,by omega,?_⟩,by dsimp only;omega⟩
    rw[← hnx]
    exact SL.into hS Xi
   ·obtain rfl:i=y.2.length:=by omega
    rw[List.take_length,List.drop_eq_nil_of_le (by omega),List.append_nil]at hS
    repeat first|refine Gp ?_|refine Gw λw hS=>?_|refine Gb λb w hS=>?_
    exact⟨hfin (j,y.1,y.2) (by unfold load1;rw[hi];simp only;rw[if_neg hc]) h02 (SL.into hS Xi),by dsimp only;omega⟩
 ·obtain rfl:j=2:=by omega
  exact⟨_,⟨H',hh,rfl⟩,hS⟩
def PSrc.redoK(k:PSrc):Option Tabs:=match redoS k.ts.length k.image (entsG k.g.segs) (lowG k.g.segs) k.ts with
 | none=>none
 | some ts=>if k.image≤headG k.g.segs∧lowG k.g.segs≤k.image+1 then some ts else none
theorem ents_cnt{L:List PSeg}(h:SeqG L):headG L-lowG L+1=((entsG L).length:Int):=by
 by_cases hL:L=[]
 ·subst hL;rfl
 ·rw[h.head hL];omega
theorem lowG_rng{L:List PSeg}{N:Nat}(h:∀s∈L,SegOk s N):1≤lowG L∧lowG L≤1099511627776:=by
 cases L with
 | nil=>exact⟨Int.le_refl _,by show (1:Int)≤_;decide⟩
 | cons s r=>exact⟨(h s (.head _)).n0,(h s (.head _)).n1⟩
theorem redoS_cons{n:Nat}{image:Int}{b:List UInt8}{r:List (List UInt8)}{lsn:Int}{ts:Tabs}:redoS n image (b::r) lsn ts=match decTxn b with
  | .error _=>none
  | .ok t=>if t.lsn=lsn∧(∀c∈t.changes,c.table<(n:Int)) then redoS n image r (lsn+1) (if image<lsn then appsTs ts t.changes else ts) else none:=rfl
theorem YO(sp tp dp lp:Nat)(H:Heap)(k:PSrc){N:Nat}(hg:GOk k.g N)(hN:N≤1000000000)(hs:∀C∈k.ts,SortedR C){L0:Nat}(hn:∀C∈k.ts,C.length≤L0)(hL:L0+16*(entsG k.g.segs).length≤900000)(him:0≤k.image∧k.image≤1099511627776):
  SP 57 [ptrA sp] [.ob (SrcO sp tp dp lp k),.mem H] (λv post=>∃H',H.le H'∧match k.redoK with
   | none=>v= .bool false∧post=[.mem H']
   | some ts=>v= .bool true∧post=[.ob (SrcO sp tp dp lp {k with ts:=ts}),.mem H']):=by
 intro W F w hS;apply vc57;unfold Vc57;(try simp only[app]at hS)
 have hF:∀{w:World} {H':Heap},k.redoK=none→H.le H'→SL W (.mem H'::F) w→∃post,(∃H',H.le H'∧match k.redoK with
   | none=>(.bool false:Value)= .bool false∧post=[.mem H']
   | some ts=>(.bool false:Value)= .bool true∧post=[.ob (SrcO sp tp dp lp {k with ts:=ts}),.mem H'])∧SL W (app post F) w:=λhr hh hS=>by
  rw[hr]
  exact⟨[.mem _],⟨_,hh,rfl,rfl⟩,hS⟩
 have hcnt:=ents_cnt hg.seq
 have hlow:=lowG_rng hg.ok.segs
 have hhd:=hg.hd
 (apply za (Zu sp tp dp lp k hg hN) hS;exact Xp;clear hS)
 (rintro v post ⟨rfl,rfl⟩ w hS;(try simp only[app]at hS);(repeat (first|refine Gp ?_|refine Gw λw hS=>?_|refine Gb λb w hS=>?_)))
 refine⟨λus w=>∃(i:Nat) (T:Tabs) (H2:Heap),us=[.int .i64 (lowG k.g.segs+i)]∧i≤(entsG k.g.segs).length∧redoS k.ts.length k.image (entsG k.g.segs) (lowG k.g.segs) k.ts=redoS k.ts.length k.image ((entsG k.g.segs).drop i) (lowG k.g.segs+i) T∧T.length=k.ts.length∧(∀C∈T,SortedR C)∧(∀C∈T,C.length≤L0+16*i)∧H.le H2∧SL W (.ob (SrcO sp tp dp lp {k with ts:=T})::.mem H2::F) w,
  λus _=>match us with|[.int _ i]=>(headG k.g.segs+1-i).toNat|_=>0,⟨0,k.ts,H,by simp,by omega,by simp,rfl,hs,by simpa using hn,Heap.le_refl H,SL.into hS Xi⟩,?_⟩
 clear hS
 rintro v3 w ⟨i,T,H2,hus,hi,hrd,hTl,hTs,hTn,hh,hS⟩
 cases hus
 (apply za (zC sp tp dp lp {k with ts:=T} hg hN) hS;exact Xp;clear hS)
 (rintro v post ⟨rfl,rfl⟩ w hS;(try simp only[app]at hS);(repeat (first|refine Gp ?_|refine Gw λw hS=>?_|refine Gb λb w hS=>?_)))
 refine zd (λh=>?_) (λh=>?_)
 ·have h:lowG k.g.segs+i≤headG k.g.segs:=h
  have hil:i<(entsG k.g.segs).length:=by omega
  have hread:=hg.seq.read i
  rw[List.getElem?_eq_getElem hil]at hread
  rw[List.drop_eq_getElem_cons hil,redoS_cons]at hrd
  generalize (entsG k.g.segs)[i]=bs at *
  have hlsn:1≤lowG k.g.segs+i∧lowG k.g.segs+i≤1099511627776:=by omega
  generalize hlq:lowG k.g.segs+i=lsn at *
  have hrk:(match decTxn bs with
   | .error _=>none
   | .ok t=>if t.lsn=lsn∧(∀c∈t.changes,c.table<(k.ts.length:Int)) then redoS k.ts.length k.image ((entsG k.g.segs).drop (i+1)) (lsn+1) (if k.image<lsn then appsTs T t.changes else T) else none)=none→k.redoK=none:=λh=>by unfold PSrc.redoK;rw[hrd,h]
  (apply za (Zd sp tp dp lp {k with ts:=T} hg hN H2 lsn (by omega)) hS;exact Xp;clear hS)
  rintro r post hq w hS
  unfold ReadSQ PSrc.readS at hq
  simp only at hq
  rw[hread]at hq
  simp only at hq
  cases hd:decTxn bs with
  | error e=>
   rw[hd]at hq hrk
   obtain⟨hne,H3,h23,rfl,rfl⟩:=hq
   (try simp only[app]at hS)
   repeat first|refine Gp ?_|refine Gw λw hS=>?_|refine Gb λb w hS=>?_
   refine zd (λ_=>?_) (λh=>absurd hne h)
   exact hF (hrk rfl) (Heap.le_trans hh h23) (SL.into hS Xi)
  | ok t=>
   rw[hd]at hq hrk hrd
   obtain⟨x,H3,h23,rfl,hx,rfl⟩:=hq
   have h03:=Heap.le_trans hh h23
   obtain⟨ht1,ht2,ht3,ht4,ht5,ht6,ht7⟩:=mayTx_all (decTxn_may hd)
   (try simp only[app]at hS)
   refine Gp ?_
   refine zW hS λxb w hS=>?_
   refine yx (vs:=encTx x) hS Xu rfl rfl (encTx_one1 (lsn:=x.lsn) (kind:=x.kind) (mark:=x.mark) hx.cv.one hx.sv.one) λw hS=>?_
   unfold encTx at hS
   rw[hx.lsn,hx.kind,hx.mark]at hS
   repeat first|refine Gp ?_|refine Gw λw hS=>?_|refine Gb λb w hS=>?_
   refine zd (λh=>absurd rfl h) (λ_=>?_)
   repeat first|refine Gp ?_|refine Gw λw hS=>?_|refine Gb λb w hS=>?_
   refine zd (λhl=>?_) (λhl=>?_)
   ·exact hF (hrk (by simp only;rw[if_neg λh=>hl h.1])) h03 (SL.into hS Xi)
   have hS:=SrcO.iff.1 (SL.into hS (t:=.ob (SrcO sp tp dp lp {k with ts:=T})::.pt xb [.int .i64 t.lsn,.int .i64 t.kind,x.cv,x.sv,.int .i64 t.mark] 39::.mem H3::F) Xi)
   repeat first|refine Gp ?_|refine Gw λw hS=>?_|refine Gb λb w hS=>?_
   (apply za (zH tp T) hS;exact Xp;clear hS)
   (rintro v post ⟨rfl,rfl⟩ w hS;(try simp only[app]at hS);(repeat (first|refine Gp ?_|refine Gw λw hS=>?_|refine Gb λb w hS=>?_)))
   (apply za (y2 H3 x.cv t.changes T.length hx.cv (by omega)) hS;exact Xp;clear hS)
   (rintro v post ⟨rfl,rfl⟩ w hS;(try simp only[app]at hS);(repeat (first|refine Gp ?_|refine Gw λw hS=>?_|refine Gb λb w hS=>?_)))
   rw[hTl]
   refine zI (λhb=>?_) (λhb=>?_)
   ·have hb:=of_decide_eq_false hb
    exact hF (hrk (by simp only;rw[if_neg λh=>hb h.2])) h03 (SL.into hS Xi)
   have hb:=of_decide_eq_true hb
   have hall:t.changes.all (chgIn T.length)=true:=List.all_eq_true.2 λc hc=>decide_eq_true ⟨(mayCh_iff.1 (ht6 c hc)).1,by rw[hTl];exact hb c hc⟩
   simp only at hrd
   rw[if_pos (show t.lsn=lsn∧∀c∈t.changes,c.table<(k.ts.length:Int) from ⟨by omega,hb⟩)]at hrd
   have hlq2:lsn+1=lowG k.g.segs+((i+1:Nat):Int):=by omega
   rw[hlq2]at hrd
   repeat first|refine Gp ?_|refine Gw λw hS=>?_|refine Gb λb w hS=>?_
   refine zd (λhi2=>?_) (λhi2=>?_)
   ·rw[if_pos (show k.image<lsn by omega)]at hrd
    repeat first|refine Gp ?_|refine Gw λw hS=>?_|refine Gb λb w hS=>?_
    (apply za (yY tp T H3 x.cv t.changes hx.cv (by omega) hTs (L0+16*i) hTn (by omega)) hS;exact Xp;clear hS)
    (rintro v post ⟨rfl,rfl⟩ w hS;(try simp only[app]at hS);(repeat (first|refine Gp ?_|refine Gw λw hS=>?_|refine Gb λb w hS=>?_)))
    rw[if_pos hall]at hS
    rw[hlq2]
    refine⟨⟨i+1,appsTs T t.changes,H3,rfl,by omega,hrd,by rw[appsTs_len];exact hTl,appsTs_sort hTs λc hc=>List.all_eq_true.1 hall c hc,λC hC=>?_,h03,SL.into (SrcO.put {k with ts:=appsTs T t.changes} hS Xp) Xi⟩,by dsimp only;omega⟩
    have:=appsTs_lenR (L0+16*i) (l:=t.changes) hTn (λc hc=>List.all_eq_true.1 hall c hc) C hC
    omega
   ·rw[if_neg (show ¬k.image<lsn by omega)]at hrd
    repeat first|refine Gp ?_|refine Gw λw hS=>?_|refine Gb λb w hS=>?_
    rw[hlq2]
    exact⟨⟨i+1,T,H3,rfl,by omega,hrd,hTl,hTs,λC hC=>by have:=hTn C hC;omega,h03,SL.into (SrcO.put {k with ts:=T} hS Xp) Xi⟩,by dsimp only;omega⟩
 ·have h:¬lowG k.g.segs+i≤headG k.g.segs:=h
  obtain rfl:i=(entsG k.g.segs).length:=by omega
  rw[List.drop_length]at hrd
  have hrd:redoS k.ts.length k.image (entsG k.g.segs) (lowG k.g.segs) k.ts=some T:=hrd
  have hR:k.redoK=if k.image≤headG k.g.segs∧lowG k.g.segs≤k.image+1 then some T else none:=by unfold PSrc.redoK;rw[hrd]
  have hS:SL W (.pt sp (scells tp dp lp k.newest k.image) 58::.ob (TabO tp T)::.ob (LogO lp dp k.g)::_) _:=SrcO.iff.1 hS
  repeat first|refine Gp ?_|refine Gw λw hS=>?_|refine Gb λb w hS=>?_
  have hS:=SrcO.put {k with ts:=T} hS Xp
  (apply za (zC sp tp dp lp {k with ts:=T} hg hN) hS;exact Xp;clear hS)
  (rintro v post ⟨rfl,rfl⟩ w hS;(try simp only[app]at hS);(repeat (first|refine Gp ?_|refine Gw λw hS=>?_|refine Gb λb w hS=>?_)))
  have hS:SL W (.pt sp (scells tp dp lp k.newest k.image) 58::.ob (TabO tp T)::.ob (LogO lp dp k.g)::_) _:=SrcO.iff.1 hS
  repeat first|refine Gp ?_|refine Gw λw hS=>?_|refine Gb λb w hS=>?_
  refine zd (λh1=>?_) (λh1=>?_)
  ·have h1:k.image≤headG k.g.segs:=h1
   repeat first|refine Gp ?_|refine Gw λw hS=>?_|refine Gb λb w hS=>?_
   have hS:=SrcO.put {k with ts:=T} hS Xp
   (apply za (Zu sp tp dp lp {k with ts:=T} hg hN) hS;exact Xp;clear hS)
   (rintro v post ⟨rfl,rfl⟩ w hS;(try simp only[app]at hS);(repeat (first|refine Gp ?_|refine Gw λw hS=>?_|refine Gb λb w hS=>?_)))
   have hS:SL W (.pt sp (scells tp dp lp k.newest k.image) 58::.ob (TabO tp T)::.ob (LogO lp dp k.g)::_) _:=SrcO.iff.1 hS
   repeat first|refine Gp ?_|refine Gw λw hS=>?_|refine Gb λb w hS=>?_
   have hS:=SrcO.put {k with ts:=T} hS Xp
   by_cases h2:lowG k.g.segs≤k.image+1
   ·rw[decide_eq_true (show lowG ({k with ts:=T}:PSrc).g.segs≤k.image+1 from h2)]
    refine⟨[.ob (SrcO sp tp dp lp {k with ts:=T}),.mem H2],⟨H2,hh,?_⟩,SL.into hS Xi⟩
    rw[hR,if_pos ⟨h1,h2⟩]
    exact⟨rfl,rfl⟩
   ·rw[decide_eq_false (show ¬lowG ({k with ts:=T}:PSrc).g.segs≤k.image+1 from h2)]
    exact hF (by rw[hR,if_neg λh=>h2 h.2]) hh (SL.into hS Xi)
  ·exact hF (by rw[hR,if_neg λh=>h1 h.1]) hh (SL.into hS Xi)
def OpenSQ(dp:Nat)(H:Heap)(y:DS × Except Int PSrc)(r:Value)(post:List Chunk):Prop:=match y.2 with
 | .error e=>e≠0∧∃H',H.le H'∧r= .tuple #[.pointer none,.int .i64 e]∧post=[.ob (DskO dp y.1),.mem H']
 | .ok k=>∃sp tp lp H',H.le H'∧r= .tuple #[ptrA sp,.int .i64 0]∧post=[.ob (SrcO sp tp dp lp k),.ob (DskO dp y.1),.mem H']
theorem loadI_may{R:List PF}{n:Nat}{x:Img}(hx:x.2.2.length=n∧(0≤x.2.1∧x.2.1≤1099511627776)∧∀C∈x.2.2,TabOk C)(f:Int):(load1 R n f x).2.2.length=n∧(0≤(load1 R n f x).2.1∧(load1 R n f x).2.1≤1099511627776)∧∀C∈(load1 R n f x).2.2,TabOk C:=by
 refine⟨load1_len hx.1,load1_img hx.2.1,?_⟩
 unfold load1
 cases hi:imgAt R n f with
 | none=>exact hx.2.2
 | some y=>
  simp only
  split
  ·exact hx.2.2
  ·exact (mayImg_iff.1 (imgAt_may hi).1).2
theorem loadI_all(R:List PF)(n:Nat):(loadI R n).2.2.length=n∧(0≤(loadI R n).2.1∧(loadI R n).2.1≤1099511627776)∧∀C∈(loadI R n).2.2,TabOk C:=
 loadI_may (loadI_may (x:=(-1,0,List.replicate n [])) ⟨List.length_replicate,⟨show (0:Int)≤0 by decide,show (0:Int)≤1099511627776 by decide⟩,λC hC=>by rw[(List.mem_replicate.1 hC).2];exact⟨List.Pairwise.nil,by simp,by decide⟩⟩ 0) 1
theorem yy(H:Heap)(dp:Nat)(d:DS)(tabs size:Int){N:Nat}(hok:d.Ok N)(hN:N≤900000000)(hops:d.ops≤90000)(hn:∀d' g,openG d 16 size=(d',.ok g)→(entsG g.segs).length≤50000):
  SP 12 [ptrA dp,.int .i64 tabs,.int .i64 size] [.ob (DskO dp d),.mem H] (OpenSQ dp H (openS d tabs size)):=by
 intro W F w hS;apply vc12;unfold Vc12;(try simp only[app]at hS)
 have hR:=hok.rlen
 (apply za (YU tabs) hS;exact Xp;clear hS)
 rintro r post hq w hS
 unfold NewTQ at hq
 by_cases ht:tabs<1∨8<tabs
 ·rw[if_pos ht]at hq
  obtain⟨rfl,rfl⟩:=hq
  have e:openS d tabs size=(d,.error 1):=by unfold openS;rw[if_pos ht]
  rw[e]
  (try simp only[app]at hS)
  repeat first|refine Gp ?_|refine Gw λw hS=>?_|refine Gb λb w hS=>?_
  refine zd (λ_=>?_) (λh=>absurd (by decide) h)
  exact⟨_,⟨by decide,H,Heap.le_refl H,rfl,rfl⟩,SL.into hS Xi⟩
 rw[if_neg ht]at hq
 obtain⟨tp,rfl,rfl⟩:=hq
 obtain⟨n,rfl⟩:∃n:Nat,tabs=n:=⟨tabs.toNat,by omega⟩
 rw[Int.toNat_natCast]at hS
 (try simp only[app]at hS)
 repeat first|refine Gp ?_|refine Gw λw hS=>?_|refine Gb λb w hS=>?_
 refine zd (λh=>absurd rfl h) (λ_=>?_)
 repeat first|refine Gp ?_|refine Gw λw hS=>?_|refine Gb λb w hS=>?_
 (apply za (Yd dp d 16 size hok (by omega) (by omega) (by omega)) hS;exact Xp;clear hS)
 rintro r post hq w hS
 unfold openS
 rw[if_neg ht]
 unfold OpenQ at hq
 have hdk:=openG_ok (base:=16) (size:=size) hok
 cases hog:openG d 16 size with
 | mk d' o=>
  rw[hog]at hq hdk
  cases o with
  | error e=>
   obtain⟨he,rfl,rfl⟩:=hq
   (try simp only[app]at hS)
   repeat first|refine Gp ?_|refine Gw λw hS=>?_|refine Gb λb w hS=>?_
   refine zd (λ_=>?_) (λh=>absurd he h)
   exact⟨_,⟨he,H,Heap.le_refl H,rfl,rfl⟩,SL.into hS Xi⟩
  | ok g=>
   obtain⟨lp,rfl,rfl⟩:=hq
   have hG:=openG_GOk hok (by omega) hog
   have hent:=hn d' g hog
   obtain⟨x1,x2,x3⟩:=loadI_all d'.R n
   (try simp only[app]at hS)
   repeat first|refine Gp ?_|refine Gw λw hS=>?_|refine Gb λb w hS=>?_
   refine zd (λh=>absurd rfl h) (λ_=>?_)
   repeat first|refine Gp ?_|refine Gw λw hS=>?_|refine Gb λb w hS=>?_
   refine ye hS λsp w hS=>?_
   (apply za (YJ sp tp dp lp d' H (-1,0,List.replicate n []) n List.length_replicate (by omega) hdk (by omega)) hS;exact Xp;clear hS)
   rintro _ post ⟨H2,h02,rfl⟩ w hS
   (try simp only[app]at hS)
   have hli:load1 d'.R n 1 (load1 d'.R n 0 (-1,0,List.replicate n []))=loadI d'.R n:=rfl
   rw[hli]at hS
   simp only[Int.toNat_natCast]
   generalize loadI d'.R n=x at *
   obtain⟨nw,im,ts⟩:=x
   simp only at x1 x2 x3 hS ⊢
   have hS:=SrcO.putN (d:=d') hS Xp
   (apply za (YO sp tp dp lp H2 ⟨g,d',ts,nw,im⟩ hG (by omega) (λC hC=>(x3 C hC).sorted) (L0:=1000) (λC hC=>(x3 C hC).len) (by show 1000+16*(entsG g.segs).length≤900000;omega) x2) hS;exact Xp;clear hS)
   rintro r post ⟨H3,h23,hq⟩ w hS
   have h03:=Heap.le_trans h02 h23
   have hK:PSrc.redoK ⟨g,d',ts,nw,im⟩=match redoS n im (entsG g.segs) (lowG g.segs) ts with
    | none=>none
    | some ts=>if im≤headG g.segs∧lowG g.segs≤im+1 then some ts else none:=by rw[← x1];rfl
   rw[hK]at hq
   clear hK
   cases hr:redoS n im (entsG g.segs) (lowG g.segs) ts with
   | none=>
    rw[hr]at hq
    obtain⟨rfl,rfl⟩:=hq
    (try simp only[app]at hS)
    refine zJ (zs ?_)
    exact⟨_,⟨by decide,H3,h03,rfl,rfl⟩,SL.into hS Xi⟩
   | some ts2=>
    rw[hr]at hq
    simp only at hq
    by_cases hc:im≤headG g.segs∧lowG g.segs≤im+1
    ·rw[if_pos hc]at hq
     obtain⟨rfl,rfl⟩:=hq
     (try simp only[app]at hS)
     refine zJ (zo ?_)
     simp only
     rw[if_pos hc]
     exact⟨_,⟨sp,tp,lp,H3,h03,rfl,rfl⟩,SL.into hS Xi⟩
    ·rw[if_neg hc]at hq
     obtain⟨rfl,rfl⟩:=hq
     (try simp only[app]at hS)
     refine zJ (zs ?_)
     simp only
     rw[if_neg hc]
     exact⟨_,⟨by decide,H3,h03,rfl,rfl⟩,SL.into hS Xi⟩
theorem eq_row(a b:Row)(w:World):(Op.equal 52 (agg (encRow a)) (agg (encRow b))).run Tryz.prog w= .ok (decide (a=b)) w:=by
 refine run_eqG Tryz.underlying52 (by kernel_rfl) ?_
 obtain⟨k,v⟩:=a
 obtain⟨k',v'⟩:=b
 simp[encRow,Op.eqFields,part,run_equalIn_int (h:=Tryz.underlying2),run_equalIn_int (h:=Tryz.underlying3),run_equalIn_bool' (h:=Tryz.underlying4),run_equalIn_string (h:=Tryz.underlying9),Result.andThen,toList_inj]
 by_cases h0:k=k'<;>by_cases h1:v=v'<;>simp[*]
theorem one_row(a b:Row):SP 80 [agg (encRow a),agg (encRow b)] [] (Gives (.bool (decide (a=b))) []):=by
 intro W F w hS;apply vc80;unfold Vc80;(try simp only[app]at hS)
 refine⟨_,rfl,zW hS ?_⟩
 clear hS;intro b1 w hS
 refine⟨_,rfl,zW hS ?_⟩
 clear hS;intro b2 w hS
 refine yR hS Xh rfl (yR hS Xh rfl (s_eqG (eq_row a b w) ?_))
 (exact⟨_,⟨rfl,rfl⟩,SL.into hS Xi⟩)
theorem plain_row(H:Heap)(u v:Value)(A B:List Row)(hu:RdSl H 2 u A.length (A.map encRow).flatten)(hv:RdSl H 2 v B.length (B.map encRow).flatten)(hn:A.length≤9223372036854775806):
  SP 26 [u,v] [.mem H] (Gives (.bool (decide (A=B))) [.mem H]):=by
 intro W F w hS;apply vc26;unfold Vc26;(try simp only[app]at hS)
 (apply za (same_gen encRow_len rfl (λv0 v1 v2 w R h=>vc79 v0 v1 v2 w R h) one_row H u v A B hu hv hn) hS;exact Xp;clear hS)
 rintro v post ⟨rfl,rfl⟩ w hS
 (try simp only[app]at hS)
 (exact⟨_,⟨rfl,rfl⟩,SL.into hS Xi⟩)
section
variable {W w:World} {l:List Chunk}
end
def awC:Chg:=⟨0,5,false,⟨#[97]⟩⟩
theorem awC_may:mayTx ⟨1,1,[awC],[],0⟩=true:=mayTx_iff.2 ⟨by decide,.inl ⟨rfl,rfl,by decide,by decide,λc hc=>by rw[List.mem_singleton.1 hc];exact mayCh_iff.2 ⟨by decide,by decide,by decide,by decide,by decide,by decide⟩,by simp⟩⟩
theorem awC_few:Few 1 ([]++[(⟨(([]:List TxnD).length:Int)+1,1,[awC],[],0⟩:TxnD)]):=(Few.nil 1).app (by exact awC_may) rfl (λc hc=>by rw[List.mem_singleton.1 hc];decide) (by decide) (by decide)
theorem yA:SP 14 [] [] (Gives (.bool true) []):=by
 intro W F w hS;apply vc14;unfold Vc14;(try simp only[app]at hS)
 have hS:=SL.memNil hS
 obtain⟨e1,hL⟩:=sopen00 (n:=1) (by decide) (by decide) (size:=64) (by decide) (by decide)
 have hk:=sok00 (n:=1) (by decide) (by decide) (size:=64) (by decide) (by decide)
 (apply za (yL) hS;exact Xp;clear hS)
 rintro v post ⟨dp,rfl,rfl⟩ w hS
 (try simp only[app]at hS)
 (apply za (yy Heap.emp dp s00 1 64 (s00_ok 0) (by decide) (by decide) (λd' g h=>by rw[open00 (by decide) (by decide) (by decide) (by decide)]at h;cases h;decide)) hS;exact Xp;clear hS)
 rintro r post hq w hS
 have e1:openS s00 1 64=(s00,.ok (k00 1 64)):=e1
 rw[e1]at hq
 obtain⟨sp,tp,lp,H1,h01,rfl,rfl⟩:=hq
 (try simp only[app]at hS)
 have hd0:(k00 1 64).d=s00:=rfl
 have hS:SL W (.ob (SrcO sp tp dp lp (k00 1 64))::.ob (DskO dp (k00 1 64).d)::_) _:=hS
 repeat first|refine Gp ?_|refine Gw λw hS=>?_|refine Gb λb w hS=>?_
 refine zo ?_
 repeat first|refine Gp ?_|refine Gw λw hS=>?_|refine Gb λb w hS=>?_
 refine zo ?_
 repeat first|refine Gp ?_|refine Gw λw hS=>?_|refine Gb λb w hS=>?_
 refine zd (λh=>absurd rfl h) (λ_=>?_)
 refine Gp ?_
 refine zy hS (cells:=encChg awC) (by simp[fillL,zrow,Value.cells,encChg,awC]) λb w hS=>?_
 obtain⟨H2,h12,hR,hS⟩:=SL.rdNew (sz:=4) (H:=H1) hS Xp rfl
 (apply za (zT sp tp dp lp (k00 1 64) H2 (.slice none 0 0) (.slice (some ⟨b,0,none⟩) 1 1) [] [awC] (RdSl.nil _ _) hR (by decide) hk (by decide) (by decide)) hS;exact Xp;clear hS)
 rintro r post ⟨rfl,rfl⟩ w hS
 have hk1:=hk.commit [] [awC]
 rcases hL.commit rfl (by decide) (by decide) awC_may (λc hc=>by rw[List.mem_singleton.1 hc];decide) awC_few.fits (by simp[k00]) with ⟨k1,d1,e,hL1,ho1,ha1,hL1arm,hops1,-,hfull1⟩|⟨_,_,_,_,h0,_⟩
 ·rw[e]at hS hk1 ⊢
  simp only at hk1 ⊢
  (try simp only[app]at hS)
  repeat first|refine Gp ?_|refine Gw λw hS=>?_|refine Gb λb w hS=>?_
  have hrd:=hL1.read awC_few.ok.may (j:=0) (Nat.le_refl _) (by decide)
  have hg1:=hk1.g
  (apply za (Zd sp tp dp lp k1 hg1 (by decide) H2 1 (by decide)) hS;exact Xp;clear hS)
  rintro r post hq w hS
  unfold ReadSQ at hq
  rw[show (1:Int)=((0:Nat):Int)+1 from rfl,hrd]at hq
  obtain⟨x,H3,h23,rfl,hx,rfl⟩:=hq
  (try simp only[app]at hS)
  refine Gp ?_
  refine zW hS λxb w hS=>?_
  refine yx (vs:=encTx x) hS Xu rfl rfl (encTx_one1 (lsn:=x.lsn) (kind:=x.kind) (mark:=x.mark) hx.cv.one hx.sv.one) λw hS=>?_
  unfold encTx at hS
  have hkd:=hx.kind
  have hcv:=hx.cv
  rw[hkd]at hS
  repeat first|refine Gp ?_|refine Gw λw hS=>?_|refine Gb λb w hS=>?_
  refine zd (λ_=>?_) (λh=>absurd rfl h)
  repeat first|refine Gp ?_|refine Gw λw hS=>?_|refine Gb λb w hS=>?_
  refine zd (λ_=>?_) (λh=>absurd rfl h)
  repeat first|refine Gp ?_|refine Gw λw hS=>?_|refine Gb λb w hS=>?_
  refine zd (λ_=>?_) (λh=>absurd rfl h)
  repeat first|refine Gp ?_|refine Gw λw hS=>?_|refine Gb λb w hS=>?_
  refine zd (λ_=>?_) (λh=>absurd rfl h)
  repeat first|refine Gp ?_|refine Gw λw hS=>?_|refine Gb λb w hS=>?_
  refine zp hcv ?_
  repeat first|refine Gp ?_|refine Gw λw hS=>?_|refine Gb λb w hS=>?_
  refine zd (λ_=>?_) (λh=>absurd rfl h)
  repeat first|refine Gp ?_|refine Gw λw hS=>?_|refine Gb λb w hS=>?_
  have hsl:=hL1.segs
  have hops1:k1.d.ops≤2:=hops1
  (apply za (Yt sp tp dp lp k1 H3 1 hk1 (by decide) (by simp at hsl;omega)) hS;exact Xp;clear hS)
  rintro v post ⟨rfl,H4,h34,rfl⟩ w hS
  rcases hL1.trim ho1 ha1 (by decide) (awC_few.imgs (by decide) (by decide)) hfull1 (lsn:=1) (by decide) with ⟨k2,I2,d2,f2,lo2,m2,e2,hm2,hL2,_⟩|⟨_,_,_,_,_,_,_,_,_,_,_,_,_,h0,_⟩
  ·have e2:k1.trimS 1=(k2,0):=e2
   rw[e2]at hS ⊢
   simp only at hS ⊢
   (try simp only[app]at hS)
   repeat first|refine Gp ?_|refine Gw λw hS=>?_|refine Gb λb w hS=>?_
   refine zd (λ_=>?_) (λh=>absurd rfl h)
   (apply za (Z2 sp tp dp lp k2) hS;exact Xp;clear hS)
   (rintro v post ⟨rfl,rfl⟩ w hS;(try simp only[app]at hS);(repeat (first|refine Gp ?_|refine Gw λw hS=>?_|refine Gb λb w hS=>?_)))
   have hmm:=hL2.img.le
   have him:=hL2.image
   have hm1:([]++[(⟨(([]:List TxnD).length:Int)+1,1,[awC],[],0⟩:TxnD)]).length=1:=rfl
   rw[hm1]at hmm
   refine zd (λ_=>?_) (λh=>by omega)
   have hS:=SrcO.iff.1 hS
   repeat first|refine Gp ?_|refine Gw λw hS=>?_|refine Gb λb w hS=>?_
   (apply za (zH tp k2.ts) hS;exact Xp;clear hS)
   (rintro v post ⟨rfl,rfl⟩ w hS;(try simp only[app]at hS);(repeat (first|refine Gp ?_|refine Gw λw hS=>?_|refine Gb λb w hS=>?_)))
   rw[hL2.ts,tabsN_len,decide_eq_true (by decide)]
   exact⟨_,⟨rfl,rfl⟩,SL.into hS Xi⟩
  ·exact absurd (hL1arm rfl) h0
 ·exact absurd rfl h0
def cutOf(s:ByteArray)(n:Nat):ByteArray:=s.extract 0 (min s.size n)
theorem ZK(s:ByteArray)(n:Nat):SP 143 [.string s,.int .i64 n] [] (Gives (.string (cutOf s n)) []):=by
 intro W F w hS;apply vc143;unfold Vc143;(try simp only[app]at hS)
 repeat first|refine Gp ?_|refine Gw λw hS=>?_|refine Gb λb w hS=>?_
 rw[show min (s.size:Int) (n:Int)=((min s.size n:Nat):Int) by omega]
 refine⟨s,0,min s.size n,rfl,⟨.i64,rfl⟩,rfl,Nat.zero_le _,Nat.min_le_left _ _,?_⟩
 (exact⟨_,⟨rfl,rfl⟩,SL.into hS Xi⟩)
def chOf(c:Chg)(k:Nat):Chg:=⟨md c.table k,if md c.key 31=30 then ((1+md c.key 1099511627776:Nat):Int) else ((1+md c.key 12:Nat):Int),c.gone,if c.gone then ⟨#[]⟩ else cutOf c.val 32⟩
theorem ZJ(c:Chg)(k:Nat)(h1:0<k)(h2:k≤8):SP 60 [agg (encChg c),.int .i64 k] [] (Gives (agg (encChg (chOf c k))) []):=by
 intro W F w hS;apply vc60;unfold Vc60;(try simp only[app]at hS)
 obtain⟨table,key,gone,val⟩:=c
 refine⟨_,rfl,zW hS ?_⟩
 clear hS;intro p w hS
 refine zW hS ?_
 clear hS;intro q w hS
 simp only[encChg]at hS
 have hm12:=md_lt key 12 (by decide)
 have hmb:=md_lt key 1099511627776 (by decide)
 have hme:(1:Int)+(md key 12:Int)=((1+md key 12:Nat):Int):=by omega
 have hmf:(1:Int)+(md key 1099511627776:Int)=((1+md key 1099511627776:Nat):Int):=by omega
 refine⟨λus w=>∃x:Nat,us=[.pointer (some ⟨x,0,none⟩)]∧SL W (.pt x [.int .i64 (md table k:Nat),.int .i64 ((1+md key 12:Nat):Int),.bool gone,.string ⟨#[]⟩] 82::.pt q [.int .i64 0,.int .i64 0,.bool false,.string ⟨#[]⟩] 82::.pt p [.int .i64 table,.int .i64 key,.bool gone,.string val] 82::F) w,?_,?_⟩
 ·refine yb hS ?_
  clear hS;intro w hS
  repeat first|refine Gp ?_|refine Gw λw hS=>?_|refine Gb λb w hS=>?_
  refine⟨?_,?_⟩
  ·(apply za (y3 table k h1 (by omega)) hS;exact Xp;clear hS)
   (rintro v post ⟨rfl,rfl⟩ w hS;(try simp only[app]at hS);(repeat (first|refine Gp ?_|refine Gw λw hS=>?_|refine Gb λb w hS=>?_)))
   refine⟨?_,?_⟩
   ·(apply za (yf key 12 (by decide) (by decide)) hS;exact Xp;clear hS)
    (rintro v post ⟨rfl,rfl⟩ w hS;(try simp only[app]at hS);(repeat (first|refine Gp ?_|refine Gw λw hS=>?_|refine Gb λb w hS=>?_)))
    rw[hme]at hS
    exact⟨_,rfl,SL.into hS Xi⟩
   ·repeat first|refine Gp ?_|refine Gw λw hS=>?_|refine Gb λb w hS=>?_
    (apply za (yf key 12 (by decide) (by decide)) hS;exact Xp;clear hS)
    (rintro v post ⟨rfl,rfl⟩ w hS;(try simp only[app]at hS);(repeat (first|refine Gp ?_|refine Gw λw hS=>?_|refine Gb λb w hS=>?_)))
    rw[hme]at hS
    exact⟨_,rfl,SL.into hS Xi⟩
  ·repeat first|refine Gp ?_|refine Gw λw hS=>?_|refine Gb λb w hS=>?_
   (apply za (y3 table k h1 (by omega)) hS;exact Xp;clear hS)
   (rintro v post ⟨rfl,rfl⟩ w hS;(try simp only[app]at hS);(repeat (first|refine Gp ?_|refine Gw λw hS=>?_|refine Gb λb w hS=>?_)))
   (apply za (yf key 12 (by decide) (by decide)) hS;exact Xp;clear hS)
   (rintro v post ⟨rfl,rfl⟩ w hS;(try simp only[app]at hS);(repeat (first|refine Gp ?_|refine Gw λw hS=>?_|refine Gb λb w hS=>?_)))
   rw[hme]at hS
   exact⟨_,rfl,SL.into hS Xi⟩
 ·clear hS
  rintro v5 w ⟨x,hus,hS⟩
  cases hus
  refine⟨λus w=>us=[]∧SL W (.pt x [.int .i64 (md table k:Nat),.int .i64 (chOf ⟨table,key,gone,val⟩ k).key,.bool gone,.string ⟨#[]⟩] 82::.pt q [.int .i64 0,.int .i64 0,.bool false,.string ⟨#[]⟩] 82::.pt p [.int .i64 table,.int .i64 key,.bool gone,.string val] 82::F) w,?_,?_⟩
  ·repeat first|refine Gp ?_|refine Gw λw hS=>?_|refine Gb λb w hS=>?_
   (apply za (yf key 31 (by decide) (by decide)) hS;exact Xp;clear hS)
   (rintro v post ⟨rfl,rfl⟩ w hS;(try simp only[app]at hS);(repeat (first|refine Gp ?_|refine Gw λw hS=>?_|refine Gb λb w hS=>?_)))
   refine zd (λh=>?_) (λh=>?_)
   ·have hk:(chOf ⟨table,key,gone,val⟩ k).key=((1+md key 1099511627776:Nat):Int):=by unfold chOf;simp only;rw[if_pos (by omega)]
    rw[hk]
    repeat first|refine Gp ?_|refine Gw λw hS=>?_|refine Gb λb w hS=>?_
    (apply za (yf key 1099511627776 (by decide) (by decide)) hS;exact Xp;clear hS)
    (rintro v post ⟨rfl,rfl⟩ w hS;(try simp only[app]at hS);(repeat (first|refine Gp ?_|refine Gw λw hS=>?_|refine Gb λb w hS=>?_)))
    rw[hmf]at hS
    exact SL.into hS Xi
   ·have hk:(chOf ⟨table,key,gone,val⟩ k).key=((1+md key 12:Nat):Int):=by unfold chOf;simp only;rw[if_neg (by omega)]
    rw[hk]
    exact⟨rfl,SL.into hS Xi⟩
  ·clear hS
   rintro w ⟨-,hS⟩
   repeat first|refine Gp ?_|refine Gw λw hS=>?_|refine Gb λb w hS=>?_
   cases gone with
   | true=>
    refine zo ?_
    repeat first|refine Gp ?_|refine Gw λw hS=>?_|refine Gb λb w hS=>?_
    have e:encChg (chOf ⟨table,key,true,val⟩ k)=[.int .i64 (md table k:Nat),.int .i64 (chOf ⟨table,key,true,val⟩ k).key,.bool true,.string ⟨#[]⟩]:=rfl
    rw[e]
    (exact⟨_,⟨rfl,rfl⟩,SL.into hS Xi⟩)
   | false=>
    refine zs ?_
    repeat first|refine Gp ?_|refine Gw λw hS=>?_|refine Gb λb w hS=>?_
    (apply za (ZK val 32) hS;exact Xp;clear hS)
    (rintro v post ⟨rfl,rfl⟩ w hS;(try simp only[app]at hS);(repeat (first|refine Gp ?_|refine Gw λw hS=>?_|refine Gb λb w hS=>?_)))
    have e:encChg (chOf ⟨table,key,false,val⟩ k)=[.int .i64 (md table k:Nat),.int .i64 (chOf ⟨table,key,false,val⟩ k).key,.bool false,.string (cutOf val 32)]:=rfl
    rw[e]
    (exact⟨_,⟨rfl,rfl⟩,SL.into hS Xi⟩)
theorem fill_chg(c:Chg)(z:List Value)(hz:z.length=4):fillL (zrow z 1) [(0,4,agg (encChg c))]=some (encChg c):=by
 simp[fillL,zrow,Value.cells,encChg,hz]
theorem yq(H:Heap)(v:Value)(l:List Chg)(k most:Nat)(hv:RdSl H 4 v l.length (l.map encChg).flatten)(h1:0<k)(h2:k≤8)(hm:most≤1000)(hn:l.length≤140737488351232):
  SP 17 [v,.int .i64 k,.int .i64 most] [.mem H] (λu post=>post=[.ob (OwnSl u 82 4 ((l.take most).map (chOf · k)).length (((l.take most).map (chOf · k)).map encChg).flatten),.mem H]):=by
 intro W F w hS;apply vc17;unfold Vc17;(try simp only[app]at hS)
 refine⟨λus w=>∃(m:Nat) (u:Value),us=[u,.int .i64 m]∧m≤l.length∧m≤most∧SL W (.ob (OwnSl u 82 4 m ((((l.take m).map (chOf · k)).map encChg).flatten))::.mem H::F) w,
  λus _=>match us with|[_,.int _ m]=>(l.length-m).toNat|_=>0,⟨0,_,rfl,by omega,by omega,OwnSl.nil hS⟩,?_⟩
 clear hS
 rintro v7 v8 w ⟨m,u,hus,hml,hmm,hS⟩
 cases hus
 have hend:∀w,(m=l.length∨m=most)→SL W (.ob (OwnSl v7 82 4 m ((((l.take m).map (chOf · k)).map encChg).flatten))::.mem H::F) w →
   ∃post,(post=[.ob (OwnSl v7 82 4 ((l.take most).map (chOf · k)).length (((l.take most).map (chOf · k)).map encChg).flatten),.mem H])∧SL W (app post F) w:=λw he hS=>by
  have ht:l.take m=l.take most:=by
   rcases he with rfl|rfl
   ·rw[List.take_length,List.take_of_length_le (by omega)]
   ·rfl
  have hl:m=((l.take most).map (chOf · k)).length:=by rw[← ht,List.length_map,List.length_take];omega
  rw[ht,hl]at hS
  exact⟨_,rfl,hS⟩
 refine zp hv ?_
 repeat first|refine Gp ?_|refine Gw λw hS=>?_|refine Gb λb w hS=>?_
 refine zd (λh=>?_) (λh=>hend w (.inl (by omega)) hS)
 repeat first|refine Gp ?_|refine Gw λw hS=>?_|refine Gb λb w hS=>?_
 refine zd (λh3=>?_) (λh3=>hend w (.inr (by omega)) hS)
 have hil:m<l.length:=by omega
 refine zL hS Xh encChg_len hv (x:=l[m]) (by simp[hil]) hil ?_
 (apply za (ZJ l[m] k h1 h2) hS;exact Xp;clear hS)
 rintro v26 post ⟨rfl,rfl⟩ w hS
 (try simp only[app]at hS)
 refine zy hS (fill_chg (chOf l[m] k) [.int .i64 0,.int .i64 0,.bool false,.string ⟨#[]⟩] rfl) ?_
 clear hS;intro b w hS
 refine zE (n:=m) (m:=1) hS Xr (src_pt0 (cs:=encChg (chOf l[m] k)) hS .hd rfl) rfl rfl (encChg_one _) (by omega) (by omega) ?_
 clear hS;intro u' w hS
 repeat first|refine Gp ?_|refine Gw λw hS=>?_|refine Gb λb w hS=>?_
 have e:(l.take (m+1)).map (chOf · k)=(l.take m).map (chOf · k)++[chOf l[m] k]:=by rw[List.take_succ_eq_append_getElem hil,List.map_append];rfl
 refine⟨⟨m+1,u',rfl,(by omega),(by omega),(by rw[e,flat_snoc];exact SL.into hS Xi)⟩,(by dsimp only;omega)⟩
theorem yB(H:Heap)(v:Value)(l:List Chg)(k most:Nat)(hv:RdSl H 4 v l.length (l.map encChg).flatten)(h1:0<k)(h2:k≤8)(hm:most≤1000)(hn:l.length≤140737488351232):
  SP 17 [v,.int .i64 k,.int .i64 most] [.mem H] (λu post=>∃H',H.le H'∧RdSl H' 4 u ((l.take most).map (chOf · k)).length (((l.take most).map (chOf · k)).map encChg).flatten∧post=[.mem H']):=by
 intro W F w hS
 refine zG.mono (yq H v l k most hv h1 h2 hm hn W F w hS) ?_
 rintro u w ⟨post,rfl,hS⟩
 have hS:SL W (_::.mem H::F) w:=hS
 obtain⟨H2,h12,hR,hS⟩:=zw (H:=H) (v:=u) hS Xp
 exact⟨_,⟨H2,h12,hR,rfl⟩,hS⟩
end Go.Proofs.YtfenmffiidchcaaGreat
