/-
  Texts of the proof, joined: RefD3, RefD4, SetR, SinkM, LogSt, SinkP, RLogG, SrcS3, SrcS4, RLogS, RLogS2, RLogS3, RLogA, RLogB, SrcR, SrcR2, SnpR, SameC, Same1, Law12, Law12A, Law12P, PlayS.
-/
import Derived.Test.YtfenmffiidchcaaGreatJ11
import Derived.Test.YtfenmffiidchcaaGreatQVcG
import Derived.Test.YtfenmffiidchcaaGreatQVcF
namespace Go.Proofs.YtfenmffiidchcaaGreat
set_option linter.unusedVariables false
set_option maxRecDepth 100000
open Go.RowKit
theorem GS{s:DS}{f:Int}(h:s.find f=0):may s f=0/\kq PF.id s.R f=true:=by
 unfold DS.find at h
 by_cases hm:may s f=0
 ·rw[if_neg (show ¬may s f≠0 from λe=>e hm)]at h
  refine⟨hm,?_⟩
  by_cases hk:kq PF.id s.R f=true
  ·exact hk
  ·rw[if_neg hk]at h;cases h
 ·rw[if_pos hm]at h;exact absurd h hm
theorem G0{R:List PF}{ys:List YF}(he:ys.map Prod.fst=R){f:Int}(hk:kq kP ys f=true):∃h:iW kP ys f<ys.length,iz PF.id R f=some ys[iW kP ys f].1/\ys[iW kP ys f].1.id=f:=by
 obtain⟨h1,h2⟩:=th hk
 refine⟨h1,?_,h2⟩
 rw[<- he,B4 ud]
 unfold iz;rw[if_pos hk,List.getElem?_eq_getElem h1];rfl
theorem Q1(H:bw)(xp:Nat)(s:DS)(N:Nat)(cR:s.Ok N)(iP:s.ops<=100000)(hR:s.R.length<=100000)(f:Int):
  SP 252 [.pointer (some ⟨xp,0,none⟩),.int .i64 f] [.ob (eI H xp s),.mem H] (eW (.int .i64 (s.sync f).2) [.ob (eI H xp (s.sync f).1),.mem H]):=by
 intro W F w hS;apply dwu;delta Mo aF bF a_ dW ai;(try simp only[app]at hS)
 obtain⟨fv,ys,⟨he,lB⟩,hS⟩:=eI.iff.1 hS
 have sH:ys.length=s.R.length:=by rw[<- he,List.length_map]
 refine Cc (yD xp s fv ys he cR.sorted (by omega) f true) ?_;clear hS
 rintro v post ⟨rfl,rfl⟩ w hS
 try simp only[app]at hS
 simp only[if_true]
 unfold DS.sync
 refine b9 (λh=>?_) (λh=>?_)
 ·rw[if_pos h]
  exact⟨_,⟨rfl,rfl⟩,eI.iff.2 ⟨fv,ys,⟨he,lB⟩,aR hS⟩⟩
 ·rw[if_neg h]
  obtain⟨hm,hk⟩:=GS (s:=s) (f:=f) (by omega)
  rw[E5 he]at hk
  obtain⟨h0,tR,xH⟩:=vN hm
  refine Cg (Zc xp s fv h0 cR.sZ cR.s5 iP) λw hS=>?_
  by_cases hc:s.g7.off=true
  ·rw[if_pos hc,hc]
   refine zt ?_
   refine Cg (yr true) λw hS=>?_
   exact⟨_,⟨rfl,rfl⟩,eI.iff.2 ⟨fv,ys,⟨he,lB⟩,aR hS⟩⟩
  ·rw[if_neg hc,(by simpa using hc:s.g7.off=false)]
   refine zw ?_
   refine Cg (Zb xp s.g7 fv ys (by rw[he];exact cR.sorted) (by omega) f) λw hS=>?_
   obtain⟨hi,hg,hid⟩:=G0 he hk
   have hA:=F5 he hk
   generalize iW kP ys f=i at *
   obtain⟨b0,cap,rest,rfl,hS,lR⟩:=j3.pt (SL.b_ hS (t:=.ob (j3 fv ys)::.pt xp (kz fv s.g7) 66::.mem H::F) Xi) (by omega)
   have oT:((ys.map jQ).flatten++rest)[0+i*3+2]?=some ys[i].2:=BX hi (i:=2) (by omega) rfl
   have Eo:((ys.map jQ).flatten++rest)[0+i*3+1]?=some (.int .i64 (ys[i].1.safe:Int)):=BX hi (i:=1) (by omega) rfl
   have hold:=lB _ (List.getElem_mem hi)
   refine zH hi (zW (ye hS Xh oT ?_))
   refine zn hold ?_
   refine zH hi (zW ?_)
   refine Zn hS Xu Eo rfl ?_
   clear hS;intro w hS
   rw[D1 (y:=(⟨f,ys[i].1.b.length,ys[i].1.b⟩,ys[i].2)) hi (i:=1) (by omega) (by omega) (by rw[<- hid];rfl)]at hS
   refine Cg (yr false) λw hS=>?_
   refine⟨_,⟨rfl,rfl⟩,eI.iff.2 ⟨Value.slice (some ⟨b0,0,none⟩) ys.length cap,ys.set i (⟨f,ys[i].1.b.length,ys[i].1.b⟩,ys[i].2),⟨?_,lB.set hold⟩,?_⟩⟩
   ·show _=oh s.R f _
    rw[hA.put _ rfl,FH hg]
   ·have:=lR (ys.set i (⟨f,ys[i].1.b.length,ys[i].1.b⟩,ys[i].2)) w (.pt xp (kz (.slice (some ⟨b0,0,none⟩) ys.length cap) s.g7) 66::.mem H::F) (by simp) (aR hS)
    exact SL.b_ this Xi
theorem YL(H:bw)(xp:Nat)(s:DS)(N:Nat)(cR:s.Ok N)(hN:N<=140737488355328)(iP:s.ops<=100000)(hR:s.R.length<=100000)(f n:Int):
  SP 176 [.pointer (some ⟨xp,0,none⟩),.int .i64 f,.int .i64 n] [.ob (eI H xp s),.mem H] (λv post=>v= .int .i64 (s.cut f n).2/\∃H',H.le H'/\post=[.ob (eI H' xp (s.cut f n).1),.mem H']):=by
 intro W F w hS;apply cWr;delta K8 aF bF a_ aW d_ dW ai;(try simp only[app]at hS)
 obtain⟨fv,ys,⟨he,lB⟩,hS⟩:=eI.iff.1 hS
 have sH:ys.length=s.R.length:=by rw[<- he,List.length_map]
 refine Cc (yD xp s fv ys he cR.sorted (by omega) f true) ?_;clear hS
 rintro v post ⟨rfl,rfl⟩ w hS
 try simp only[app]at hS
 simp only[if_true]
 unfold DS.cut
 refine b9 (λh=>?_) (λh=>?_)
 ·rw[if_pos h]
  exact⟨_,⟨rfl,H,bw.le_refl H,rfl⟩,eI.iff.2 ⟨fv,ys,⟨he,lB⟩,aR hS⟩⟩
 ·rw[if_neg h]
  obtain⟨hm,hk⟩:=GS (s:=s) (f:=f) (by omega)
  rw[E5 he]at hk
  obtain⟨h0,tR,xH⟩:=vN hm
  refine Cg (Zb xp s fv ys (by rw[he];exact cR.sorted) (by omega) f) λw hS=>?_
  obtain⟨hi,hg,hid⟩:=G0 he hk
  have hA:=F5 he hk
  generalize iW kP ys f=i at *
  have Hs:rn s.R f=ys[i].1.b.length:=by unfold rn;rw[hg]
  have hold:=lB _ (List.getElem_mem hi)
  have wC:ys[i].1.b.length<=N:=cR.len _ (by rw[<- he];exact List.mem_map.2 ⟨_,List.getElem_mem hi,rfl⟩)
  rw[Hs]
  refine za (λh3=>?_) (λh3=>?_)
  ·rw[if_pos (.inl h3)]
   exact⟨_,⟨rfl,H,bw.le_refl H,rfl⟩,eI.iff.2 ⟨fv,ys,⟨he,lB⟩,aR hS⟩⟩
  ·obtain⟨b0,cap,rest,rfl,hS,lR⟩:=j3.pt (SL.b_ hS (t:=.ob (j3 fv ys)::.pt xp (kz fv s) 66::.mem H::F) Xi) (by omega)
   have oT:((ys.map jQ).flatten++rest)[0+i*3+2]?=some ys[i].2:=BX hi (i:=2) (by omega) rfl
   refine Gp ?_
   refine zH hi (zW (ye hS Xh oT ?_))
   refine zn hold ?_
   refine b9 (λh4=>?_) (λh4=>?_)
   ·rw[if_pos (.inr h4)]
    have:=lR ys w (.pt xp (kz (.slice (some ⟨b0,0,none⟩) ys.length cap) s) 66::.mem H::F) rfl (aR hS)
    exact⟨_,⟨rfl,H,bw.le_refl H,rfl⟩,eI.iff.2 ⟨_,ys,⟨he,lB⟩,SL.b_ this Xi⟩⟩
   ·rw[if_neg (by omega)]
    obtain⟨k,rfl⟩:∃k:Nat,n=(k:Int):=⟨n.toNat,by omega⟩
    rw[Int.toNat_natCast]
    refine Cg (Zc xp s (.slice (some ⟨b0,0,none⟩) ys.length cap) h0 cR.sZ cR.s5 iP) λw hS=>?_
    by_cases hc:s.g7.off=true
    ·rw[if_pos hc,hc]
     refine zt ?_
     refine Cg (yr true) λw hS=>?_
     have:=lR ys w (.pt xp (kz (.slice (some ⟨b0,0,none⟩) ys.length cap) s.g7) 66::.mem H::F) rfl (aR hS)
     exact⟨_,⟨rfl,H,bw.le_refl H,rfl⟩,eI.iff.2 ⟨_,ys,⟨he,lB⟩,SL.b_ this Xi⟩⟩
    ·rw[if_neg hc,(by simpa using hc:s.g7.off=false)]
     refine zw ?_
     refine Gn λw hS=>?_
     refine zH hi (zW (ye hS Xh oT ?_))
     refine qi hold (k:=k) (by omega) ?_
     intro v' aRx
     refine Gm λb w hS=>?_
     refine ye hS Xh oT ?_
     refine Gp ?_
     have hS:=bI.full (n:=0) (sz:=1) rfl hS
     refine zy (n:=0) (m:=k) hS .hd (o_ hS Xh aRx) (by rw[List.length_take,List.length_map];omega) rfl (λv hv=>nE _ v (List.mem_of_mem_take hv)) (by omega) (by omega) ?_
     clear hS;intro v2 w hS
     have mn:=hS.oF .hd
     rw[Nat.zero_add,List.nil_append]at hS
     refine Gp ?_
     refine zH hi (zW ?_)
     refine Zn hS Xu oT mn ?_
     clear hS;intro w hS
     rw[D1 (y:=(⟨f,ys[i].1.safe,ys[i].1.b.take k⟩,v2)) hi (i:=2) (by omega) (by omega) (by rw[<- hid];rfl)]at hS
     have Ez:i<(ys.set i (⟨f,ys[i].1.safe,ys[i].1.b.take k⟩,v2)).length:=by simpa using hi
     have Eo:(((ys.set i (⟨f,ys[i].1.safe,ys[i].1.b.take k⟩,v2)).map jQ).flatten++rest)[0+i*3+1]?=some (.int .i64 (ys[i].1.safe:Int)):=BX Ez (i:=1) (by omega) (by simp[jQ])
     refine Gn λw hS=>?_
     refine zH hi (zW (ye hS Xh Eo ?_))
     refine Gp ?_
     refine zH hi (zW ?_)
     refine Zn hS Xu Eo rfl ?_
     clear hS;intro w hS
     have XP:min (ys[i].1.safe:Int) (k:Int)=((min ys[i].1.safe k:Nat):Int):=by omega
     rw[XP]at hS
     rw[D1 (y:=(⟨f,min ys[i].1.safe k,ys[i].1.b.take k⟩,v2)) Ez (i:=1) (by omega) (by omega) (by simp[jQ]),List.set_set]at hS
     have e1:(ys[i].1.b.map fI).take (k*1)=(ys[i].1.b.take k).map fI:=by rw[Nat.mul_one,List.map_take]
     have e2:(ys[i].1.b.take k).length=k:=by rw[List.length_take];omega
     rw[e1]at hS
     obtain⟨H',fF,l_,hS⟩:=zu (H:=H) (v:=v2) (n:=k) (sz:=1) (t:=5) (cells:=(ys[i].1.b.take k).map fI) hS Xp
     refine Cg (yr false) λw hS=>?_
     refine⟨_,⟨rfl,H',fF,rfl⟩,eI.iff.2 ⟨Value.slice (some ⟨b0,0,none⟩) ys.length cap,ys.set i (⟨f,min ys[i].1.safe k,ys[i].1.b.take k⟩,v2),⟨?_,(lB.mono fF).set (by rw[e2];exact l_)⟩,?_⟩⟩
     ·show _=oh s.R f _
      rw[hA.put _ rfl,FH hg];rfl
     ·have:=lR (ys.set i (⟨f,min ys[i].1.safe k,ys[i].1.b.take k⟩,v2)) w (.pt xp (kz (.slice (some ⟨b0,0,none⟩) ys.length cap) s.g7) 66::.mem H'::F) (by simp) (aR hS)
      exact SL.b_ this Xi
theorem Zt(H:bw)(xp:Nat)(s:DS)(N:Nat)(cR:s.Ok N)(iP:s.ops<=100000)(hR:s.R.length<=100000)(f:Int):
  SP 174 [.pointer (some ⟨xp,0,none⟩),.int .i64 f] [.ob (eI H xp s),.mem H] (eW (.int .i64 (s.remove f).2) [.ob (eI H xp (s.remove f).1),.mem H]):=by
 intro W F w hS;apply cWp;delta K6 aF fR aW d_ dW ai bR;(try simp only[app]at hS)
 obtain⟨fv,ys,⟨he,lB⟩,hS⟩:=eI.iff.1 hS
 have sH:ys.length=s.R.length:=by rw[<- he,List.length_map]
 refine Cc (yD xp s fv ys he cR.sorted (by omega) f true) ?_;clear hS
 rintro v post ⟨rfl,rfl⟩ w hS
 try simp only[app]at hS
 simp only[if_true]
 unfold DS.remove
 refine b9 (λh=>?_) (λh=>?_)
 ·rw[if_pos h]
  exact⟨_,⟨rfl,rfl⟩,eI.iff.2 ⟨fv,ys,⟨he,lB⟩,aR hS⟩⟩
 ·rw[if_neg h]
  obtain⟨hm,hk⟩:=GS (s:=s) (f:=f) (by omega)
  rw[E5 he]at hk
  obtain⟨h0,tR,xH⟩:=vN hm
  refine Cg (Zc xp s fv h0 cR.sZ cR.s5 iP) λw hS=>?_
  by_cases hc:s.g7.off=true
  ·rw[if_pos hc,hc]
   refine zt ?_
   refine Cg (yr true) λw hS=>?_
   exact⟨_,⟨rfl,rfl⟩,eI.iff.2 ⟨fv,ys,⟨he,lB⟩,aR hS⟩⟩
  ·rw[if_neg hc,(by simpa using hc:s.g7.off=false)]
   refine zw ?_
   refine Cg (Zb xp s.g7 fv ys (by rw[he];exact cR.sorted) (by omega) f) λw hS=>?_
   obtain⟨hi,hg,hid⟩:=G0 he hk
   have aR3:nI kP ys f=ys.eraseIdx (iW kP ys f):=by unfold nI;rw[if_pos hk]
   have RW:=PG ud ys f
   rw[he,aR3]at RW
   generalize iW kP ys f=i at *
   have xB:=PX lB
   refine I_ hS (t:=186) (sz:=3) (n:=ys.length) (cells:=(ys.map jQ).flatten) Xh (Nat.le_of_lt hi) ?_
   intro a cap lC
   refine Gp ?_
   refine UM hS (t:=186) (sz:=3) (n:=ys.length) (cells:=(ys.map jQ).flatten) Xh hi ?_
   intro u HL
   refine Gm λb w hS=>?_
   have hS:=bI.full (n:=0) (sz:=3) rfl hS
   refine zy (n:=0) (m:=i) hS .hd (lC _ _ hS Xh) (by rw[List.length_take,l8 nX];exact Nat.min_eq_left (Nat.mul_le_mul_right _ (Nat.le_of_lt hi))) rfl (λv hv=>xB v (List.mem_of_mem_take hv)) (by omega) (by omega) ?_
   clear hS;intro v1 w hS
   rw[Nat.zero_add,List.nil_append,sA nX]at hS
   refine Gp ?_
   refine zy (n:=i) (m:=ys.length-(i+1)) (cells:=((ys.take i).map jQ).flatten) hS Xr (HL _ _ hS Xh) (by rw[List.length_drop,l8 nX,Nat.mul_sub_right_distrib]) rfl (λv hv=>xB v (List.mem_of_mem_drop hv)) (by omega) (by omega) ?_
   clear hS;intro v3 w hS
   have mn:=hS.oF .hd
   refine Gn λw hS=>?_
   rw[rN nX]at hS
   have e1:((ys.take i).map jQ).flatten++((ys.drop (i+1)).map jQ).flatten=((ys.eraseIdx i).map jQ).flatten:=by rw[List.eraseIdx_eq_take_drop_succ];simp
   have e2:i+(ys.length-(i+1))=(ys.eraseIdx i).length:=by rw[List.length_eraseIdx,if_pos hi];omega
   rw[e1,e2]at hS
   refine Cg (yr false) λw hS=>?_
   exact⟨_,⟨rfl,rfl⟩,eI.iff.2 ⟨v3,ys.eraseIdx i,⟨RW,λy hy=>lB y (List.mem_of_mem_eraseIdx hy)⟩,aR hS⟩⟩
theorem b9s(H:bw)(xp:Nat)(s:DS)(n:Int):
  SP 129 [.pointer (some ⟨xp,0,none⟩),.int .i64 n] [.ob (eI H xp s)] (eW (.tuple #[]) [.ob (eI H xp (s.pX n))]):=by
 intro W F w hS;apply cRh;delta Kp fR ai;(try simp only[app]at hS)
 obtain⟨fv,ys,he,hS⟩:=eI.iff.1 hS
 refine Gn λw hS=>?_
 have hS:SL W (.pt xp (kz fv (s.pX n)) 66::.ob (j3 fv ys)::F) w:=hS
 exact⟨_,⟨rfl,rfl⟩,eI.iff.2 ⟨fv,ys,he,aR hS⟩⟩
def iO(H:bw)(r:Nat)(ts:kC):zE:=nr λx:Value × List Value=>zU (mT H x.2 ts/\ts.length<=8)
 [.pt r [x.1] 157,.ob (bI x.1 53 1 ts.length x.2)]
section
variable {W w:World} {l F:List Chunk} {H H':bw} {r:Nat} {ts:kC}
theorem iO.iff:SL W (.ob (iO H r ts)::l) w↔∃(v:Value) (vs:List Value),(mT H vs ts/\ts.length<=8)/\SL W (.pt r [v] 157::.ob (bI v 53 1 ts.length vs)::l) w:=by
 unfold iO
 simp only[SL.ex,SL.fact,List.cons_append,List.nil_append]
 constructor
 ·rintro ⟨⟨v,vs⟩,h1,h2⟩;exact⟨v,vs,h1,h2⟩
 ·rintro ⟨v,vs,h1,h2⟩;exact⟨⟨v,vs⟩,h1,h2⟩
theorem iO.mono(hh:H.le H')(h:SL W (.ob (iO H r ts)::l) w):SL W (.ob (iO H' r ts)::l) w:=by
 obtain⟨v,vs,hA,hS⟩:=iO.iff.1 h
 exact iO.iff.2 ⟨v,vs,⟨hA.1.mono hh,hA.2⟩,hS⟩
theorem iO.iK(hh:H.le H')(hS:SL W l w)(k:kG (.ob (iO H r ts)) l F):SL W (.ob (iO H' r ts)::F) w:=iO.mono hh (hS.perm k.perm)
theorem iO.put{v:Value}{vs:List Value}(ts:kC)(h:mT H vs ts)(h8:ts.length<=8)(hS:SL W l w)(k:kI [.pt r [v] 157,.ob (bI v 53 1 ts.length vs)] l F):SL W (.ob (iO H r ts)::F) w:=iO.iff.2 ⟨v,vs,⟨h,h8⟩,hS.pick k⟩
end
theorem bRq(H:bw)(n:Nat)(h1:1<=n)(h2:n<=8):SP 75 [.int .i64 n] [] (λv post=>∃r:Nat,v=eF r/\post=[.ob (iO H r (List.replicate n []))]):=by
 intro W w F hS
 refine zV.mono (bRr H n h1 h2 W w F hS) ?_
 rintro v w' ⟨post,⟨r,rfl,rfl⟩,hS⟩
 obtain⟨bv,vs,hA,hS⟩:=w9.iff.1 hS
 have hS:=bI.full (n:=(List.replicate n ([]:List Row)).length) (sz:=1) (by rw[hA.1.1,Nat.mul_one]) (hS.perm (.swap _ _ _))
 exact⟨_,⟨r,rfl,rfl⟩,iO.iff.2 ⟨_,vs,hA,hS.perm (.swap _ _ _)⟩⟩
theorem Z7(H:bw)(r:Nat)(ts:kC)(t:Int):SP 77 [eF r,.int .i64 t] [.ob (iO H r ts)] (eW (.bool (decide (0<=t/\t<(ts.length:Int)))) [.ob (iO H r ts)]):=by
 intro W F w hS;apply dR9;delta Oi aF bF cw ai;(try simp only[app]at hS)
 refine b9 (λh=>?_) (λh=>?_)
 ·obtain⟨v,vs,hA,hS⟩:=iO.iff.1 hS
  refine Gp ?_
  refine zx hS Xh ?_
  refine Gp ?_
  have hS:=iO.put ts hA.1 hA.2 hS Xp
  rw[show (decide (t<(ts.length:Int)))=decide (0<=t/\t<(ts.length:Int)) by simp[h]]
  exact fw hS
 ·rw[decide_eq_false (show ¬(0<=t/\t<(ts.length:Int)) by omega)]
  exact fw hS
def Ae(H:bw)(r:Nat)(ts:kC)(l:List iy)(u:Value)(post:List Chunk):Prop:=if l.all (kJ ts.length)=true then u= .bool true/\∃H',H.le H'/\post=[.mem H',.ob (iO H' r (jS ts l))] else u= .bool false/\post=[.mem H,.ob (iO H r ts)]
theorem Wa{ts:kC}{c:iy}{t:Nat}(ht:t<ts.length)(hc:c.table=t):mJ ts c=ts.set t (nC ts[t] c):=by
 unfold mJ
 rw[hc,Int.toNat_natCast,rB ts t ht]
theorem y3(H:bw)(r:Nat)(ts:kC)(v:Value)(l:List iy)(hv:fW H 4 v l.length (l.map jE).flatten){L0:Nat}(hL:∀C∈ts,C.length<=L0)(hn:L0+l.length<=1000000):
  SP 78 [eF r,v] [.mem H,.ob (iO H r ts)] (Ae H r ts l):=by
 intro W F w hS;apply dWa;delta Oj aF bF a_ aW d_ dW cw ai;(try simp only[app]at hS)
 refine⟨λus w=>∃i:Nat,us=[.int .i64 i]/\i<=l.length/\(∀j (h:j<l.length),j<i->kJ ts.length l[j]=true)/\SL W (.mem H::.ob (iO H r ts)::F) w,λus _=>match us with|[.int _ i]=>(l.length-i).toNat|_=>0,⟨0,rfl,by omega,λj h hj=>by omega,hS⟩,?_⟩
 clear hS
 rintro v5 w ⟨i,dR,hi,iD,hS⟩
 cases dR
 refine zn hv ?_
 refine b9 (λh=>?_) (λh=>?_)
 ·have b8:i<l.length:=by omega
  refine zA hS Xh mP hv (x:=l[i]) (List.getElem?_eq_getElem b8) b8 (i:=0) rfl ?_
  refine Cg (Z7 H r ts l[i].table) λw hS=>?_
  refine zz (λhe=>?_) (λhe=>?_)
  ·have iT:¬l.all (kJ ts.length)=true:=λh=>by
    have:=List.all_eq_true.1 h _ (List.getElem_mem b8)
    unfold kJ at this
    rw[he]at this;cases this
   exact⟨[.mem H,.ob (iO H r ts)],by unfold Ae;rw[if_neg iT];exact⟨rfl,rfl⟩,aR hS⟩
  ·refine Gp ?_
   refine⟨⟨i+1,rfl,by omega,λj hj ll=>?_,aR hS⟩,by dsimp only;omega⟩
   by_cases e:j=i
   ·subst e;exact he
   ·exact iD j hj (by omega)
 ·have hA:∀c∈l,kJ ts.length c=true:=λc hc=>by
   obtain⟨j,hj,rfl⟩:=List.getElem_of_mem hc
   exact iD j hj (by omega)
  have aI2:l.all (kJ ts.length)=true:=List.all_eq_true.2 hA
  refine⟨λus w=>∃(i:Nat) (H2:bw),us=[.int .i64 i]/\i<=l.length/\H.le H2/\SL W (.mem H2::.ob (iO H2 r (jS ts (l.take i)))::F) w,λus _=>match us with|[.int _ i]=>(l.length-i).toNat|_=>0,⟨0,H,rfl,by omega,bw.le_refl H,hS⟩,?_⟩
  clear hS h hi iD i
  rintro v6 w ⟨i,H2,dR,hi,hH,hS⟩
  cases dR
  have ni:=hv.mono hH
  refine zn ni ?_
  refine b9 (λh=>?_) (λh=>?_)
  ·have b8:i<l.length:=by omega
   have hx:l[i]?=some l[i]:=List.getElem?_eq_getElem b8
   have xG:=of_decide_eq_true (hA _ (List.getElem_mem b8))
   have mX:jS ts (l.take (i+1))=mJ (jS ts (l.take i)) l[i]:=by rw[List.take_succ_eq_append_getElem b8,F8]
   have sC:=uy ts (l.take i)
   have sD:∀C∈jS ts (l.take i),C.length<=1000000:=λC hC=>by
    have:=Ap L0 hL (λc hc=>hA c (List.mem_of_mem_take hc)) C hC
    rw[List.length_take]at this
    omega
   generalize jS ts (l.take i)=T at *
   generalize l[i]=c at *
   obtain⟨table,key,gone,val⟩:=c
   simp only at xG
   obtain⟨t,rfl⟩:∃t:Nat,table=t:=⟨table.toNat,by omega⟩
   have ht:t<T.length:=by omega
   rw[Wa ht rfl]at mX
   have Ef:=sD _ (List.getElem_mem ht)
   have hTt:T[t]?=some T[t]:=List.getElem?_eq_getElem ht
   refine zA hS Xh mP ni hx b8 (i:=0) rfl ?_
   refine zA hS Xh mP ni hx b8 (i:=2) rfl ?_
   obtain⟨sv,vs,hR,hS⟩:=iO.iff.1 (SL.b_ hS (t:=.ob (iO H2 r T)::.mem H2::F) Xi)
   have vI:t<vs.length:=by rw[hR.1.1];exact ht
   have tf:vs[t]?=some vs[t]:=List.getElem?_eq_getElem vI
   have hC:=hR.1.2 t vs[t] T[t] tf hTt
   generalize T[t]=C at *
   generalize vs[t]=cv at *
   have lR:∀{w:World} {H3:bw} {u:Value} {C':List Row},H2.le H3->fW H3 2 u C'.length (C'.map iu).flatten->jS ts (l.take (i+1))=T.set t C'->SL W (.ob (bI sv 53 1 T.length (vs.set t u))::.pt r [sv] 157::.mem H3::F) w ->
     ∃(i':Nat) (H2:bw),[Value.int .i64 ((i+1:Nat):Int)]=[.int .i64 i']/\i'<=l.length/\H.le H2/\SL W (.mem H2::.ob (iO H2 r (jS ts (l.take i')))::F) w:=λ{w H3 u C'} jA hu e hS=>by
    refine⟨i+1,_,rfl,by omega,bw.le_trans hH jA,?_⟩
    rw[e]
    have hS:=(iO.iff (H:=H3) (r:=r) (ts:=T.set t C')).2 ⟨sv,vs.set t u,⟨(hR.1.mono jA).set hu,by rw[List.length_set];exact hR.2⟩,by rw[List.length_set];exact SL.b_ hS (t:=.pt r [sv] 157::.ob (bI sv 53 1 T.length (vs.set t u))::.mem H3::F) Xi⟩
    exact aR hS
   cases gone with
   | true=>
    refine zw ?_
    refine Gn λw hS=>?_
    refine z8 hS Xh ht tf ?_
    refine zA hS Xh mP ni hx b8 (i:=1) rfl ?_
    refine Cc (qT H2 cv C key hC Ef) ?_;clear hS
    rintro v3 post ⟨u,bb,H3,jA,rfl,Cb,rfl⟩ w hS
    try simp only[app]at hS
    have h1:=Cb.one
    refine Gp ?_
    refine Ze (SL.b_ hS (t:=.ob (bI sv 53 1 T.length vs)::.pt r [sv] 157::.mem H3::F) Xi) ht h1 λw hS=>?_
    refine Gp ?_
    exact⟨lR jA Cb mX hS,by dsimp only;omega⟩
   | false=>
    refine zt ?_
    refine Gn λw hS=>?_
    refine z8 hS Xh ht tf ?_
    refine zA hS Xh mP ni hx b8 (i:=1) rfl ?_
    refine zA hS Xh mP ni hx b8 (i:=3) rfl ?_
    refine Cc (qU H2 cv C key val hC Ef) ?_;clear hS
    rintro v3 post ⟨u,bb,H3,jA,rfl,Cb,rfl⟩ w hS
    try simp only[app]at hS
    have h1:=Cb.one
    refine Gp ?_
    refine Ze (SL.b_ hS (t:=.ob (bI sv 53 1 T.length vs)::.pt r [sv] 157::.mem H3::F) Xi) ht h1 λw hS=>?_
    refine Gp ?_
    exact⟨lR jA Cb mX hS,by dsimp only;omega⟩
  ·obtain rfl:i=l.length:=by omega
   rw[List.take_length]at hS
   exact⟨[.mem H2,.ob (iO H2 r (jS ts l))],by unfold Ae;rw[if_pos aI2];exact⟨rfl,H2,hH,rfl⟩,hS⟩
theorem Qv(H:bw)(r:Nat)(ts:kC)(hn:∀C∈ts,C.length<=1000000):
  SP 248 [eF r] [.mem H,.ob (iO H r ts)] (λu post=>∃(r2:Nat) (H':bw),H.le H'/\u=eF r2/\post=[.mem H',.ob (iO H' r ts),.ob (iO H' r2 ts)]):=by
 intro W F w hS;apply dwq;delta Mk aF bF aW d_ ai dw bR;(try simp only[app]at hS)
 obtain⟨sv,vs,hR,hS⟩:=iO.iff.1 (SL.b_ hS (t:=.ob (iO H r ts)::.mem H::F) Xi)
 have h8:=hR.2
 refine Gp ?_
 refine zx hS (v:=sv) (t:=53) (sz:=1) (n:=ts.length) (cells:=vs) Xh ?_
 refine I8 hS (by omega) (by omega) (by omega) ?_
 clear hS;intro bv w hS
 have hz:cW [.slice none 0 0] ts.length=List.replicate ts.length (.slice none 0 0:Value):=by simp[cW]
 rw[hz]at hS
 have hS:=bI.full (n:=ts.length) (sz:=1) (by simp) hS
 generalize hbv:(Value.slice (some ⟨bv,0,none⟩) ts.length ts.length)=nv at *
 have h1:nv.oneCell'=true:=by rw[<- hbv];rfl
 refine yz (D4 h1) ?_
 refine⟨_,rfl,zI hS ?_⟩
 clear hS;intro r2 w hS
 refine⟨λus w=>∃(i:Nat) (H2:bw) (Bq:List Value),us=[.int .i64 i]/\i<=ts.length/\H.le H2/\mT H2 Bq (ts.take i++List.replicate (ts.length-i) [])/\SL W (.pt r2 [nv] 157::.ob (bI nv 53 1 ts.length Bq)::.pt r [sv] 157::.ob (bI sv 53 1 ts.length vs)::.mem H2::F) w,
  λus _=>match us with|[.int _ i]=>(ts.length-i).toNat|_=>0,⟨0,H,List.replicate ts.length (.slice none 0 0),rfl,by omega,bw.le_refl H,⟨by simp,λi v C h1 h2=>by
   rw[List.take_zero,List.nil_append,List.getElem?_replicate]at h2
   rw[List.getElem?_replicate]at h1
   split at h1
   ·cases h1;split at h2
    all_goals first|(cases h2;exact fW.nil H 2)|(cases h2)
   ·cases h1⟩,aR hS⟩,?_⟩
 clear hS
 rintro v4 w ⟨i,H2,Bq,dR,hi,hH,l_,hS⟩
 cases dR
 refine Gp ?_
 refine zx hS (v:=sv) (t:=53) (sz:=1) (n:=ts.length) (cells:=vs) Xh ?_
 refine b9 (λh=>?_) (λh=>?_)
 ·have b8:i<ts.length:=by omega
  have vI:i<vs.length:=by rw[hR.1.1];exact b8
  have tf:vs[i]?=some vs[i]:=List.getElem?_eq_getElem vI
  have hC:=(hR.1.2 i vs[i] ts[i] tf (List.getElem?_eq_getElem b8)).mono hH
  have Ef:=hn _ (List.getElem_mem b8)
  have ri:(ts.take i++List.replicate (ts.length-i) ([]:List Row)).set i ts[i]=ts.take (i+1)++List.replicate (ts.length-(i+1)) []:=by
   rw[List.set_append_right _ _ (by rw[List.length_take];omega),List.length_take,Nat.min_eq_left hi,Nat.sub_self,show ts.length-i=(ts.length-(i+1))+1 by omega,List.replicate_succ,List.set_cons_zero,List.take_succ_eq_append_getElem b8,List.append_assoc];rfl
  generalize ts[i]=C at *
  generalize vs[i]=cv at *
  refine Gn λw hS=>?_
  obtain⟨sa,sc,rfl,A4,hsx⟩:=bI.at hS (v:=sv) (t:=53) (sz:=1) (n:=ts.length) (cells:=vs) Xh
  obtain⟨sb,rfl,_⟩:=hsx i b8
  have oT:vs[0+i*1]?=some cv:=by rw[Nat.zero_add,Nat.mul_one];exact tf
  refine zH b8 ?_
  refine Ql hS (t:=53) (sz:=1) (cells:=vs) Xh (by omega) oT ?_
  refine zD hS (cells:=[]) rfl ?_
  clear hS;intro b1 w hS
  refine Gp ?_
  refine Ql hS (t:=53) (sz:=1) (cells:=vs) Xh (by omega) oT (qf ?_)
  have hS:=bI.full (n:=0) (sz:=2) (b:=b1) (t:=52) (cells:=[]) rfl hS
  refine zy (n:=0) (m:=C.length) hS Xr (o_ hS Xh hC) (l8 jG _) rfl (pD xo _) (by omega) (by omega) ?_
  clear hS;intro u w hS
  rw[List.nil_append,Nat.zero_add]at hS
  obtain⟨H3,jA,hO,hS⟩:=zu (H:=H2) (v:=u) (n:=C.length) (sz:=2) (t:=52) (cells:=(C.map iu).flatten) hS Xp
  have h1:=hO.one
  refine Gp ?_
  refine Ze (SL.b_ hS (t:=.ob (bI nv 53 1 ts.length Bq)::.pt r2 [nv] 157::.pt r [.slice (some ⟨sb,0,none⟩) ts.length sc] 157::.ob (bI (.slice (some ⟨sb,0,none⟩) ts.length sc) 53 1 ts.length vs)::.mem H3::F) Xi) b8 h1 λw hS=>?_
  refine Gp ?_
  refine⟨⟨i+1,H3,Bq.set i u,rfl,by omega,bw.le_trans hH jA,?_,aR hS⟩,by dsimp only;omega⟩
  rw[<- ri]
  exact (l_.mono jA).set hO
 ·obtain rfl:i=ts.length:=by omega
  rw[List.take_length,Nat.sub_self,List.replicate_zero,List.append_nil]at l_
  have hS:=iO.put (H:=H2) ts (hR.1.mono hH) hR.2 hS (r:=r) (v:=sv) (vs:=vs) Xp
  have hS:=iO.put (H:=H2) ts l_ hR.2 hS (r:=r2) (v:=nv) (vs:=Bq) Xp
  exact⟨_,⟨r2,H2,hH,rfl,rfl⟩,aR hS⟩
theorem Qz(H:bw)(r:Nat)(ts:kC)(v:Value)(l:List iy)(hv:fW H 4 v l.length (l.map jE).flatten){L0:Nat}(hL:∀C∈ts,C.length<=L0)(hn:L0+l.length<=1000000):
  SP 182 [eF r,v] [.mem H,.ob (iO H r ts)] (λu post=>∃H',H.le H'/\u= .bool (pr ts l)/\post=[.mem H',.ob (iO H' r ts)]):=by
 intro W F w hS;apply cWy;delta Le aF bF dW cw ai;(try simp only[app]at hS)
 refine Cc (Qv H r ts (λC hC=>by have:=hL C hC;omega)) ?_;clear hS
 rintro _ post ⟨r2,H1,fF,rfl,rfl⟩ w hS
 try simp only[app]at hS
 refine Cc (y3 H1 r2 ts v l (hv.mono fF) hL hn) ?_;clear hS
 rintro u post hq w hS
 unfold Ae at hq
 by_cases ha:l.all (kJ ts.length)=true
 ·rw[if_pos ha]at hq
  obtain⟨rfl,H2,f',rfl⟩:=hq
  try simp only[app]at hS
  refine zQ (zt ?_)
  have hS:=iO.iK f' hS (r:=r) (ts:=ts) Xr
  have hf:pr ts l=(jS ts l).all λC=>decide (C.length<=1000):=by unfold pr;rw[ha];rfl
  obtain⟨sv,vs,hR,hS⟩:=iO.iff.1 (SL.b_ hS (t:=.ob (iO H2 r2 (jS ts l))::.ob (iO H2 r ts)::.mem H2::F) Xi)
  generalize jS ts l=T at *
  refine⟨λus w=>∃i:Nat,us=[.int .i64 i]/\i<=T.length/\(∀j (h:j<T.length),j<i->T[j].length<=1000)/\SL W (.pt r2 [sv] 157::.ob (bI sv 53 1 T.length vs)::.ob (iO H2 r ts)::.mem H2::F) w,λus _=>match us with|[.int _ i]=>(T.length-i).toNat|_=>0,⟨0,rfl,by omega,λj h hj=>by omega,hS⟩,?_⟩
  clear hS
  rintro v6 w ⟨i,dR,hi,iD,hS⟩
  cases dR
  refine Gp ?_
  refine zx hS (v:=sv) (t:=53) (sz:=1) (n:=T.length) (cells:=vs) Xh ?_
  refine b9 (λh=>?_) (λh=>?_)
  ·have b8:i<T.length:=by omega
   have vI:i<vs.length:=by rw[hR.1.1];exact b8
   have tf:vs[i]?=some vs[i]:=List.getElem?_eq_getElem vI
   have hC:=hR.1.2 i vs[i] T[i] tf (List.getElem?_eq_getElem b8)
   refine Gp ?_
   refine z8 hS Xh b8 tf ?_
   refine zn hC ?_
   refine b9 (λh2=>?_) (λh2=>?_)
   ·refine⟨[.mem H2,.ob (iO H2 r ts)],⟨H2,bw.le_trans fF f',?_,rfl⟩,aR hS⟩
    rw[hf,show T.all (λC=>decide (C.length<=1000))=false from List.all_eq_false.2 ⟨_,List.getElem_mem b8,by rw[decide_eq_true_eq];omega⟩]
   ·refine Gp ?_
    refine⟨⟨i+1,rfl,by omega,λj hj ll=>?_,aR hS⟩,by dsimp only;omega⟩
    by_cases e:j=i
    ·subst e;omega
    ·exact iD j hj (by omega)
  ·refine⟨[.mem H2,.ob (iO H2 r ts)],⟨H2,bw.le_trans fF f',?_,rfl⟩,aR hS⟩
   rw[hf,show T.all (λC=>decide (C.length<=1000))=true from List.all_eq_true.2 λC hC=>by
    obtain⟨j,hj,rfl⟩:=List.getElem_of_mem hC
    exact decide_eq_true (iD j hj (by omega))]
 ·rw[if_neg ha]at hq
  obtain⟨rfl,rfl⟩:=hq
  try simp only[app]at hS
  refine zQ (zw ?_)
  refine⟨[.mem H1,.ob (iO H1 r ts)],⟨H1,fF,?_,rfl⟩,aR hS⟩
  unfold pr
  rw[Bool.eq_false_iff.2 ha]
  rfl
theorem QW(H:bw)(r:Nat)(ts:kC)(t:Int)(hn:∀C∈ts,C.length<=1000000):
  SP 106 [eF r,.int .i64 t] [.mem H,.ob (iO H r ts)] (λu post=>post=[jC u (lz ts t),.mem H,.ob (iO H r ts)]):=by
 intro W F w hS;apply cIw;delta J7 bF dW ai dw bR;(try simp only[app]at hS)
 refine Cg (Z7 H r ts t) λw hS=>?_
 refine zz (λh=>?_) (λh=>?_)
 ·have h:=of_decide_eq_false h
  have e:lz ts t=[]:=by
   unfold lz
   split
   ·rfl
   ·rw[List.getElem?_eq_none (by omega)];rfl
  rw[e]
  have hS:SL W (jC (.slice none 0 0) []::_) _:=bI.nil hS
  exact⟨_,rfl,aR hS⟩
 ·have h:=of_decide_eq_true h
  obtain⟨n,rfl⟩:∃n:Nat,t=n:=⟨t.toNat,by omega⟩
  have b8:n<ts.length:=by omega
  rw[rB ts n b8]
  have Ef:=hn _ (List.getElem_mem b8)
  obtain⟨sv,vs,hR,hS⟩:=iO.iff.1 (SL.b_ hS (t:=.ob (iO H r ts)::.mem H::F) Xi)
  have vI:n<vs.length:=by rw[hR.1.1];exact b8
  have tf:vs[n]?=some vs[n]:=List.getElem?_eq_getElem vI
  have hC:=hR.1.2 n vs[n] ts[n] tf (List.getElem?_eq_getElem b8)
  generalize vs[n]=cv at *
  refine zD hS (cells:=[]) rfl ?_
  clear hS;intro b1 w hS
  refine Gp ?_
  refine z8 hS Xh b8 tf ?_
  have hS:=iO.put ts hR.1 hR.2 hS (r:=r) (v:=sv) (vs:=vs) Xp
  have hS:=bI.full (n:=0) (sz:=2) (b:=b1) (t:=52) (cells:=[]) rfl (SL.b_ hS (t:=.pt b1 [] 52::.ob (iO H r ts)::.mem H::F) Xi)
  refine zy (n:=0) (m:=ts[n].length) hS Xr (o_ hS Xh hC) (l8 jG _) rfl (pD xo _) (by omega) (by omega) ?_
  clear hS;intro u w hS
  rw[List.nil_append,Nat.zero_add]at hS
  have hS:SL W (jC u ts[n]::_) _:=hS
  exact⟨_,rfl,aR hS⟩
theorem V5(C:List Row)(key:Int)(n:Nat)(i:Nat)(hi:i<C.length)(h:((C.take i).filter λr=>decide (key<r.key)).length<n):((C.take (i+1)).filter λr=>decide (key<r.key))=((C.take i).filter λr=>decide (key<r.key))++(if key<C[i].key then [C[i]] else []):=by
 rw[List.take_succ_eq_append_getElem hi,List.filter_append]
 congr 1
 by_cases hk:key<C[i].key
 ·rw[if_pos hk,List.filter_cons_of_pos (by simpa using hk),List.filter_nil]
 ·rw[if_neg hk,List.filter_cons_of_neg (by simpa using hk),List.filter_nil]
theorem qq(H:bw)(v:Value)(C:List Row)(key:Int)(n:Nat)(hC:fW H 2 v C.length (C.map iu).flatten)(hn:C.length<=1000000):
  SP 189 [v,.int .i64 key,.int .i64 n] [.mem H] (λu post=>post=[jC u (oy C key n),.mem H]):=by
 intro W F w hS;apply cW5;delta Ll aF a_ ai dw bR;(try simp only[app]at hS)
 have hS:SL W (jC (.slice none 0 0) []::_) _:=bI.nil hS
 refine⟨λus w=>∃(i:Nat) (u:Value),us=[u,.int .i64 i]/\i<=C.length/\((C.take i).filter λr=>decide (key<r.key)).length<=n/\SL W (jC u ((C.take i).filter λr=>decide (key<r.key))::.mem H::F) w,
  λus _=>match us with|[_,.int _ i]=>(C.length-i).toNat|_=>0,⟨0,_,rfl,by omega,by simp,hS⟩,?_⟩
 clear hS
 rintro u v8 w ⟨i,_,dR,hi,hle,hS⟩
 cases dR
 have pP:=List.length_filter_le (λr:Row=>decide (key<r.key)) (C.take i)
 rw[List.length_take]at pP
 refine zn hC ?_
 refine Gp ?_
 have a_v:C.filter (λr=>decide (key<r.key))=(C.take i).filter (λr=>decide (key<r.key))++(C.drop i).filter (λr=>decide (key<r.key)):=by rw[<- List.filter_append,List.take_append_drop]
 have kX:∀{w:World},(i=C.length\/((C.take i).filter λr=>decide (key<r.key)).length=n)->SL W (jC u ((C.take i).filter λr=>decide (key<r.key))::.mem H::F) w->∃post,post=[jC u (oy C key n),.mem H]/\SL W (app post F) w:=λhh hS=>by
  have e:oy C key n=(C.take i).filter λr=>decide (key<r.key):=by
   unfold oy
   rw[Int.toNat_natCast,a_v]
   rcases hh with rfl|hh
   ·rw[List.drop_length,List.filter_nil,List.append_nil,List.take_of_length_le hle]
   ·rw[List.take_append_of_le_length (by omega),List.take_of_length_le hle]
  rw[e]
  exact⟨_,rfl,hS⟩
 refine za (λh=>?_) (λh=>kX (.inl (by omega)) hS)
 refine zx hS Xh ?_
 refine Gp ?_
 refine za (λh2=>?_) (λh2=>kX (.inr (by omega)) hS)
 have b8:i<C.length:=by omega
 have hx:C[i]?=some C[i]:=List.getElem?_eq_getElem b8
 have mX:=V5 C key n i b8 (by omega)
 refine zA hS Xh jG hC hx b8 (i:=0) rfl ?_
 refine b9 (λh3=>?_) (λh3=>?_)
 ·rw[if_pos (show key<C[i].key by omega)]at mX
  refine zK hS Xh jG hC hx b8 ?_
  generalize C[i]=r at *
  obtain⟨rk,rv⟩:=r
  rw[D2]
  refine Gm λb w hS=>?_
  refine zX (n:=((C.take i).filter λr=>decide (key<r.key)).length) (xs:=(C.take i).filter λr=>decide (key<r.key)) (y:=⟨rk,rv⟩) (enc:=iu) hS Xr Xh jG (λx=>s7 x) rfl (by omega) (by omega) λu2 w hS=>?_
  have hS:=hS.o9 (x:=(⟨rk,rv⟩:Row))
  refine Gp ?_
  rw[<- mX]at hS
  refine⟨⟨i+1,u2,rfl,by omega,?_,aR hS⟩,by dsimp only;omega⟩
  rw[mX,List.length_append,List.length_singleton];omega
 ·rw[if_neg (show ¬key<C[i].key by omega),List.append_nil]at mX
  refine Gp ?_
  refine⟨⟨i+1,u,rfl,by omega,by rw[mX];exact hle,by rw[mX];exact aR hS⟩,by dsimp only;omega⟩
theorem lA.head{L:List g6}(h:lA L)(hL:L≠[]):c_ L=jT L+(iY L).length-1:=by
 induction L with
 | nil=>exact absurd rfl hL
 | cons s r ih=>
  cases r with
  | nil=>simp[c_,jT,iY,g6.next]
  | cons t r=>
   have h1:=ih h.2 (by simp)
   have h2:c_ (s::t::r)=c_ (t::r):=by simp only[c_,List.getLast?_cons_cons]
   have h3:=h.1
   rw[h2,h1,xq s (t::r),List.length_append]
   simp only[g6.next]at h3
   show jT (t::r)+_-1=s.first+_-1
   have:jT (t::r)=t.first:=rfl
   rw[this];omega
theorem lA.read:∀{L:List g6},lA L->∀i:Nat,lE L (jT L+i)=(iY L)[i]?
 | [],_,i=>by simp[lE,iY]
 | [s],_,i=>by
  have e:jT [s]=s.first:=rfl
  rw[e,lE,xq]
  have he:iY []=([]:List (List UInt8)):=rfl
  rw[he,List.append_nil]
  by_cases h:i<s.l.length
  ·rw[if_pos ⟨by omega,by show s.first+i<s.first+s.l.length;omega⟩]
   congr 1;omega
  ·rw[if_neg (by rintro ⟨_,h2⟩;have h2:s.first+i<s.first+s.l.length:=h2;omega),List.getElem?_eq_none (by omega)];rfl
 | s::t::r,h,i=>by
  have e:jT (s::t::r)=s.first:=rfl
  have e2:jT (t::r)=t.first:=rfl
  have h1:=h.1
  simp only[g6.next]at h1
  rw[e,lE,xq]
  by_cases hi:i<s.l.length
  ·rw[if_pos ⟨by omega,by show s.first+i<s.first+s.l.length;omega⟩,List.getElem?_append_left hi]
   congr 1;omega
  ·rw[if_neg (by rintro ⟨_,h2⟩;have h2:s.first+i<s.first+s.l.length:=h2;omega),List.getElem?_append_right (by omega)]
   have:=lA.read h.2 (i-s.l.length)
   rw[e2]at this
   rw[<- this]
   congr 1;omega
theorem T1{d d':DS}{base size:Int}{N:Nat}(hw:sY d.R base N)(hR:d.R.length<=100000){g:iq}(h:kV d base size=(d',.ok g)):oM g (N+100000):=by
 have hk:=(bWh hw hR h).1
 unfold kV at h
 split at h
 ·cases h
 ·split at h
  ·cases h
  ·split at h
   ·cases h
   ·rename_i L wh hl
    obtain⟨k1,k2⟩:=Ti _ _ [] _ trivial (by decide) hl
    split at h
    ·cases h
    ·cases h
     exact⟨hk,k1,k2,λx hx=>by cases hx⟩
theorem S0:∀(l:List Nat) (a N:Nat),a<=N->l.Pairwise (· < ·)->(∀x∈l,a<=x/\x<N)->l.length+a<=N
 | [],a,N,h,_,_=>by simpa using h
 | x::l,a,N,_,hp,hx=>by
  have h1:=hx x (.head _)
  obtain⟨tX,uT⟩:=List.pairwise_cons.1 hp
  have:=S0 l (x+1) N (by omega) uT λy hy=>⟨tX y hy,(hx y (.tail _ hy)).2⟩
  rw[List.length_cons];omega
theorem DS.Ok.Bm{s:DS}{N:Nat}(h:s.Ok N):s.R.length<=16384:=by
 have hs:(s.R.map λx=>x.id.toNat).Pairwise (· < ·):=by
  rw[List.pairwise_map]
  refine List.Pairwise.imp_of_mem (λ{a b} ha hb iZ=>?_) h.sorted
  have h1:=h.ids a ha
  have h2:=h.ids b hb
  have iZ:a.id<b.id:=iZ
  omega
 have:=S0 _ 0 16384 (by decide) hs λn hn=>by
  obtain⟨x,hx,rfl⟩:=List.mem_map.1 hn
  have:=h.ids x hx
  omega
 simpa using this
def VC(dp:Nat)(d:DS)(H:bw)(n:Nat)(f:Int)(r:Value)(post:List Chunk):Prop:=∃H',H.le H'/\post=[.ob (dI dp d),.mem H']/\match lU d.R n f with
 | none=>∃a b,r= .tuple #[a,b,.bool false]
 | some y=>∃v,u_ H' v y.2/\r= .tuple #[.int .i64 y.1,v,.bool true]
theorem aFs(dp:Nat)(d:DS)(H:bw)(n:Nat)(f:Int){N:Nat}(cR:d.Ok N)(hN:N<=140737488355328):
  SP 140 [eF dp,.int .i64 f,.int .i64 (n:Nat)] [.ob (dI dp d),.mem H] (VC dp d H n f):=by
 intro W F w hS;apply cRs;delta KA aF dW ai bR;(try simp only[app]at hS)
 refine Cc (Yf dp d N cR hN f) ?_;clear hS
 rintro r post hq w hS
 unfold BF at hq
 cases hg:iz PF.id d.R f with
 | none=>
  rw[hg]at hq
  obtain⟨rfl,rfl⟩:=hq
  have hi:lU d.R n f=none:=by unfold lU;rw[hg]
  (try simp only[app]at hS);refine Gp ?_
  refine zw ?_
  refine⟨[.ob (dI dp d),.mem H],⟨H,bw.le_refl H,rfl,?_⟩,aR hS⟩
  rw[hi];exact⟨_,_,rfl⟩
 | some x=>
  rw[hg]at hq
  obtain⟨u,rfl,rfl⟩:=hq
  have pC:=cR.len x (uJ hg).1
  (try simp only[app]at hS);refine Gp ?_
  refine zt ?_
  refine Cc (qG (.ob (bI u 5 1 x.b.length (x.b.map fI))) H u x.b ix.own (by omega)) ?_;clear hS
  rintro r post hq w hS
  unfold Bw at hq
  cases hd:l7 x.b with
  | none=>
   rw[hd]at hq
   obtain⟨rfl,H',hh,rfl⟩:=hq
   have hi:lU d.R n f=none:=by unfold lU;rw[hg];simp only;rw[hd]
   (try simp only[app]at hS);refine Gp ?_
   refine za (λh=>absurd h (by decide)) (λ_=>?_)
   refine⟨[.ob (dI dp d),.mem H'],⟨H',hh,rfl,?_⟩,aR hS⟩
   rw[hi];exact⟨_,_,rfl⟩
  | some y=>
   rw[hd]at hq
   obtain⟨v,H',hh,hT,rfl,rfl⟩:=hq
   have hi:lU d.R n f=if y.2.length=n then some y else none:=by unfold lU;rw[hg];simp only;rw[hd]
   (try simp only[app]at hS);refine Gp ?_
   refine za (λ_=>?_) (λh=>absurd rfl h)
   refine yt hT ?_
   refine Gp ?_
   refine⟨[.ob (dI dp d),.mem H'],⟨H',hh,rfl,?_⟩,aR hS⟩
   rw[hi]
   by_cases hl:y.2.length=n
   ·rw[if_pos hl,decide_eq_true (by omega)]
    exact⟨v,hT,rfl⟩
   ·rw[if_neg hl,decide_eq_false (by omega)]
    exact⟨_,_,rfl⟩
def loadAt(R:List PF)(n:Nat)(x:sh):Nat->sh
 | 0=>x
 | 1=>jX R n 0 x
 | _=>jX R n 1 (jX R n 0 x)
theorem EX{R:List PF}{n:Nat}{f:Int}{y:Int × kC}(h:lU R n f=some y):lD y.1 y.2=true/\y.2.length=n:=by
 unfold lU at h
 split at h
 ·cases h
 ·split at h
  ·cases h
  ·rename_i hd
   split at h
   ·rename_i hl
    cases h
    exact⟨PB hd,hl⟩
   ·cases h
theorem cwr{α:Type}{l m:List α}{i:Nat}(hi:i<l.length)(h:m.length=l.length):(l.take i++m.drop i).set i l[i]=l.take (i+1)++m.drop (i+1):=by
 rw[List.set_append_right _ _ (by rw[List.length_take];omega),List.length_take,show i-min i l.length=0 by omega,List.drop_eq_getElem_cons (by omega:i<m.length),List.set_cons_zero,List.take_succ_eq_append_getElem hi,List.append_assoc]
 rfl
theorem Te{R:List PF}{n:Nat}{x:sh}{j:Nat}(h:j<=1):loadAt R n x (j+1)=jX R n j (loadAt R n x j):=by
 match j,h with
 | 0,_=>rfl
 | 1,_=>rfl
theorem Ir{R:List PF}{n:Nat}{f:Int}{x:sh}(h:x.2.2.length=n):(jX R n f x).2.2.length=n:=by
 unfold jX
 cases hi:lU R n f with
 | none=>exact h
 | some y=>
  simp only
  split
  ·exact h
  ·exact (EX hi).2
theorem bIl{R:List PF}{n:Nat}{f:Int}{x:sh}(h:0<=x.2.1/\x.2.1<=1099511627776):0<=(jX R n f x).2.1/\(jX R n f x).2.1<=1099511627776:=by
 unfold jX
 cases hi:lU R n f with
 | none=>exact h
 | some y=>
  simp only
  split
  ·exact h
  ·have:=(uh.1 (EX hi).1).1
   exact⟨this.1,this.2.1⟩
theorem bIr(sp tp dp lp:Nat)(d:DS)(H:bw)(x0:sh)(n:Nat)(CY:x0.2.2.length=n)(h8:n<=8){N:Nat}(cR:d.Ok N)(hN:N<=140737488355328):
  SP 56 [eF sp] [.pt sp (ry tp dp lp x0.1 x0.2.1) 58,.ob (jD tp x0.2.2),.ob (dI dp d),.mem H] (λ_ post=>∃H',H.le H'/\post=[.pt sp (ry tp dp lp (jX d.R n 1 (jX d.R n 0 x0)).1 (jX d.R n 1 (jX d.R n 0 x0)).2.1) 58,.ob (jD tp (jX d.R n 1 (jX d.R n 0 x0)).2.2),.ob (dI dp d),.mem H']):=by
 intro W F w hS;apply dRs;delta N3 aF bF fR aW d_ dW ai;(try simp only[app]at hS)
 refine⟨λus w=>∃(j:Nat) (H':bw),us=[.int .i64 j]/\j<=2/\H.le H'/\(loadAt d.R n x0 j).2.2.length=n/\SL W (.pt sp (ry tp dp lp (loadAt d.R n x0 j).1 (loadAt d.R n x0 j).2.1) 58::.ob (jD tp (loadAt d.R n x0 j).2.2)::.ob (dI dp d)::.mem H'::F) w,
  λus _=>match us with|[.int _ i]=>(2-i).toNat|_=>0,⟨0,H,rfl,by omega,bw.le_refl H,CY,hS⟩,?_⟩
 clear hS
 rintro v2 w ⟨j,H',dR,hj,hh,pC,hS⟩
 cases dR
 refine b9 (λh=>?_) (λh=>?_)
 ·have AV:j<=1:=by omega
  have lZ:=Te (R:=d.R) (n:=n) (x:=x0) AV
  have lS:∀{w:World} {H2:bw} (y:sh),jX d.R n j (loadAt d.R n x0 j)=y->H.le H2->SL W (.pt sp (ry tp dp lp y.1 y.2.1) 58::.ob (jD tp y.2.2)::.ob (dI dp d)::.mem H2::F) w ->
    ∃(j':Nat) (H':bw),[Value.int .i64 ((j+1:Nat):Int)]=[.int .i64 j']/\j'<=2/\H.le H'/\(loadAt d.R n x0 j').2.2.length=n/\SL W (.pt sp (ry tp dp lp (loadAt d.R n x0 j').1 (loadAt d.R n x0 j').2.1) 58::.ob (jD tp (loadAt d.R n x0 j').2.2)::.ob (dI dp d)::.mem H'::F) w:=λy hy iS hS=>by
   refine⟨j+1,_,rfl,by omega,iS,?_,?_⟩
   ·rw[lZ];exact Ir pC
   ·rw[lZ,hy];exact hS
  generalize hx:loadAt d.R n x0 j=x at *
  refine Gn λw hS=>?_
  refine Cg (yZ tp x.2.2) λw hS=>?_
  refine Cc (aFs dp d H' x.2.2.length j cR hN) ?_;clear hS
  rintro r post ⟨H2,f',rfl,hq⟩ w hS
  try simp only[app]at hS
  rw[pC]at hq
  have iS:=bw.le_trans hh f'
  cases hi:lU d.R n j with
  | none=>
   rw[hi]at hq
   obtain⟨a,b,rfl⟩:=hq
   refine Gp ?_
   refine⟨λus w=>False,?_,λw h=>h.elim⟩
   refine zQ (zw ?_)
   refine Gp ?_
   exact⟨lS x (by unfold jX;rw[hi]) iS (aR hS),by dsimp only;omega⟩
  | some y=>
   rw[hi]at hq
   obtain⟨v,hT,rfl⟩:=hq
   obtain⟨CF,sH⟩:=EX hi
   have uN:=(uh.1 CF).2
   refine Gp ?_
   refine⟨λus w=>us=[]/\¬(0<=x.1/\y.1<=x.2.1)/\SL W (.pt sp (ry tp dp lp x.1 x.2.1) 58::.ob (jD tp x.2.2)::.ob (dI dp d)::.mem H2::F) w,?_,?_⟩
   ·refine zQ (zt ?_)
    refine b9 (λh0=>?_) (λh0=>?_)
    ·refine b9 (λh1=>?_) (λh1=>?_)
     ·refine Gp ?_
      exact⟨lS x (by unfold jX;rw[hi];simp only;rw[if_pos ⟨h0,h1⟩]) iS (aR hS),by dsimp only;omega⟩
     ·exact⟨rfl,λh=>h1 h.2,aR hS⟩
    ·exact⟨rfl,λh=>h0 h.1,aR hS⟩
   clear hS
   rintro w ⟨-,hc,hS⟩
   refine Gn λw hS=>?_
   refine yt hT ?_
   have hS:SL W (_::.ob (jD tp (y.2.take 0++x.2.2.drop 0))::_) _:=hS
   refine⟨λus w=>∃i:Nat,us=[.int .i64 i]/\i<=y.2.length/\SL W (.ob (jD tp (y.2.take i++x.2.2.drop i))::.pt sp (ry tp dp lp j y.1) 58::.ob (dI dp d)::.mem H2::F) w,
    λus _=>match us with|[.int _ i]=>(y.2.length-i).toNat|_=>0,⟨0,rfl,by omega,aR hS⟩,?_⟩
   clear hS
   rintro FJ w ⟨i,dR,b8,hS⟩
   cases dR
   refine b9 (λh=>?_) (λh=>?_)
   ·have b8:i<y.2.length:=by omega
    have rW:=cwr (m:=x.2.2) b8 (by omega)
    have HW:i<(y.2.take i++x.2.2.drop i).length:=by rw[List.length_append,List.length_take,List.length_drop];omega
    have RE:=uN _ (List.getElem_mem b8)
    refine qe hS Xh hT b8 λu hu=>?_
    generalize y.2[i]=C at *
    generalize y.2.take i++x.2.2.drop i=T at *
    refine Gp ?_
    refine Cg (cF4 tp T H2 u i C HW hu RE.sorted (by have:=RE.len;omega)) λw hS=>?_
    refine⟨⟨i+1,rfl,by omega,?_⟩,by dsimp only;omega⟩
    rw[<- rW]
    exact aR hS
   ·obtain rfl:i=y.2.length:=by omega
    rw[List.take_length,List.drop_eq_nil_of_le (by omega),List.append_nil]at hS
    refine Gp ?_
    exact⟨lS (j,y.1,y.2) (by unfold jX;rw[hi];simp only;rw[if_neg hc]) iS (aR hS),by dsimp only;omega⟩
 ·obtain rfl:j=2:=by omega
  exact⟨_,⟨H',hh,rfl⟩,hS⟩
def g_.wT(k:g_):Option kC:=match oG k.ts.length k.image (iY k.g.bW) (jT k.g.bW) k.ts with
 | none=>none
 | some ts=>if k.image<=c_ k.g.bW/\jT k.g.bW<=k.image+1 then some ts else none
theorem PZ{L:List g6}(h:lA L):c_ L-jT L+1=((iY L).length:Int):=by
 by_cases hL:L=[]
 ·subst hL;rfl
 ·rw[h.head hL];omega
theorem Tm{L:List g6}{N:Nat}(h:∀s∈L,m_ s N):1<=jT L/\jT L<=1099511627776:=by
 cases L with
 | nil=>exact⟨Int.le_refl _,by show (1:Int)<=_;decide⟩
 | cons s r=>exact⟨(h s (.head _)).n0,(h s (.head _)).n1⟩
theorem Uq{n:Nat}{image:Int}{b:List UInt8}{r:List (List UInt8)}{aI:Int}{ts:kC}:oG n image (b::r) aI ts=match mw b with
  | .error _=>none
  | .ok t=>if t.aI=aI/\(∀c∈t.changes,c.table<(n:Int)) then oG n image r (aI+1) (if image<aI then jS ts t.changes else ts) else none:=rfl
theorem b91(sp tp dp lp:Nat)(H:bw)(k:g_){N:Nat}(hg:oM k.g N)(hN:N<=1000000000)(hs:∀C∈k.ts,kB C){L0:Nat}(hn:∀C∈k.ts,C.length<=L0)(hL:L0+16*(iY k.g.bW).length<=900000)(s_:0<=k.image/\k.image<=1099511627776):
  SP 57 [eF sp] [.ob (iC sp tp dp lp k),.mem H] (λv post=>∃H',H.le H'/\match k.wT with
   | none=>v= .bool false/\post=[.mem H']
   | some ts=>v= .bool true/\post=[.ob (iC sp tp dp lp {k with ts:=ts}),.mem H']):=by
 intro W F w hS;apply dRt;delta N4 aF bF a_ aW d_ dW cw ai bR;(try simp only[app]at hS)
 have hF:∀{w:World} {H':bw},k.wT=none->H.le H'->SL W (.mem H'::F) w->∃post,(∃H',H.le H'/\match k.wT with
   | none=>(.bool false:Value)= .bool false/\post=[.mem H']
   | some ts=>(.bool false:Value)= .bool true/\post=[.ob (iC sp tp dp lp {k with ts:=ts}),.mem H'])/\SL W (app post F) w:=λhr hh hS=>by
  rw[hr]
  exact⟨[.mem _],⟨_,hh,rfl,rfl⟩,hS⟩
 have wE:=PZ hg.seq
 have wI:=Tm hg.ok.bW
 have Cs:=hg.hd
 refine Cg (YT sp tp dp lp k hg hN) λw hS=>?_
 refine⟨λus w=>∃(i:Nat) (T:kC) (H2:bw),us=[.int .i64 (jT k.g.bW+i)]/\i<=(iY k.g.bW).length/\oG k.ts.length k.image (iY k.g.bW) (jT k.g.bW) k.ts=oG k.ts.length k.image ((iY k.g.bW).drop i) (jT k.g.bW+i) T/\T.length=k.ts.length/\(∀C∈T,kB C)/\(∀C∈T,C.length<=L0+16*i)/\H.le H2/\SL W (.ob (iC sp tp dp lp {k with ts:=T})::.mem H2::F) w,
  λus _=>match us with|[.int _ i]=>(c_ k.g.bW+1-i).toNat|_=>0,⟨0,k.ts,H,by simp,by omega,by simp,rfl,hs,by simpa using hn,bw.le_refl H,aR hS⟩,?_⟩
 clear hS
 rintro v3 w ⟨i,T,H2,dR,hi,iA,sC,uN,sD,hh,hS⟩
 cases dR
 refine Cg (yi sp tp dp lp {k with ts:=T} hg hN) λw hS=>?_
 refine za (λh=>?_) (λh=>?_)
 ·have h:jT k.g.bW+i<=c_ k.g.bW:=h
  have b8:i<(iY k.g.bW).length:=by omega
  have CO:=hg.seq.read i
  rw[List.getElem?_eq_getElem b8]at CO
  rw[List.drop_eq_getElem_cons b8,Uq]at iA
  generalize (iY k.g.bW)[i]=bs at *
  have sG:1<=jT k.g.bW+i/\jT k.g.bW+i<=1099511627776:=by omega
  generalize hlq:jT k.g.bW+i=aI at *
  have vG:(match mw bs with
   | .error _=>none
   | .ok t=>if t.aI=aI/\(∀c∈t.changes,c.table<(k.ts.length:Int)) then oG k.ts.length k.image ((iY k.g.bW).drop (i+1)) (aI+1) (if k.image<aI then jS T t.changes else T) else none)=none->k.wT=none:=λh=>by unfold g_.wT;rw[iA,h]
  refine Cc (yM sp tp dp lp {k with ts:=T} hg hN H2 aI (by omega)) ?_;clear hS
  rintro r post hq w hS
  unfold ve g_.kf at hq
  simp only at hq
  rw[CO]at hq
  simp only at hq
  cases hd:mw bs with
  | error e=>
   rw[hd]at hq vG
   obtain⟨jJ,H3,jA,rfl,rfl⟩:=hq
   refine Gm λb w hS=>?_
   refine za (λ_=>?_) (λh=>absurd jJ h)
   exact hF (vG rfl) (bw.le_trans hh jA) (aR hS)
  | ok t=>
   rw[hd]at hq vG iA
   obtain⟨x,H3,jA,rfl,hx,rfl⟩:=hq
   have mM:=bw.le_trans hh jA
   obtain⟨HQ,A5,HR,HS,HT,CT,HU⟩:=nB (Gx hd)
   try simp only[app]at hS
   refine Gp ?_
   refine zI hS λxb w hS=>?_
   refine zB (vs:=iG x) hS Xu rfl rfl (rM (aI:=x.aI) (kind:=x.kind) (mark:=x.mark) hx.cv.one hx.sv.one) λw hS=>?_
   unfold iG at hS
   rw[hx.aI,hx.kind,hx.mark]at hS
   refine Gn λw hS=>?_
   refine za (λh=>absurd rfl h) (λ_=>?_)
   refine b9 (λhl=>?_) (λhl=>?_)
   ·exact hF (vG (by simp only;rw[if_neg λh=>hl h.1])) mM (aR hS)
   have hS:=iC.iff.1 (SL.b_ hS (t:=.ob (iC sp tp dp lp {k with ts:=T})::.pt xb [.int .i64 t.aI,.int .i64 t.kind,x.cv,x.sv,.int .i64 t.mark] 39::.mem H3::F) Xi)
   refine Gp ?_
   refine Cg (yZ tp T) λw hS=>?_
   refine Cg (Z2 H3 x.cv t.changes T.length hx.cv (by omega)) λw hS=>?_
   rw[sC]
   refine zz (λhb=>?_) (λhb=>?_)
   ·have hb:=of_decide_eq_false hb
    exact hF (vG (by simp only;rw[if_neg λh=>hb h.2])) mM (aR hS)
   have hb:=of_decide_eq_true hb
   have iD:t.changes.all (kJ T.length)=true:=List.all_eq_true.2 λc hc=>decide_eq_true ⟨(wN.1 (CT c hc)).1,by rw[sC];exact hb c hc⟩
   simp only at iA
   rw[if_pos (show t.aI=aI/\∀c∈t.changes,c.table<(k.ts.length:Int) from ⟨by omega,hb⟩)]at iA
   have xP:aI+1=jT k.g.bW+((i+1:Nat):Int):=by omega
   rw[xP]at iA
   refine b9 (λvB=>?_) (λvB=>?_)
   ·rw[if_pos (show k.image<aI by omega)]at iA
    refine Gn λw hS=>?_
    refine Cg (ZT tp T H3 x.cv t.changes hx.cv (by omega) uN (L0+16*i) sD (by omega)) λw hS=>?_
    rw[if_pos iD]at hS
    rw[xP]
    refine⟨⟨i+1,jS T t.changes,H3,rfl,by omega,iA,by rw[uy];exact sC,DL uN λc hc=>List.all_eq_true.1 iD c hc,λC hC=>?_,mM,SL.b_ (iC.put {k with ts:=jS T t.changes} hS Xp) Xi⟩,by dsimp only;omega⟩
    have:=Ap (L0+16*i) (l:=t.changes) sD (λc hc=>List.all_eq_true.1 iD c hc) C hC
    omega
   ·rw[if_neg (show ¬k.image<aI by omega)]at iA
    refine Gp ?_
    rw[xP]
    exact⟨⟨i+1,T,H3,rfl,by omega,iA,sC,uN,λC hC=>by have:=sD C hC;omega,mM,SL.b_ (iC.put {k with ts:=T} hS Xp) Xi⟩,by dsimp only;omega⟩
 ·have h:¬jT k.g.bW+i<=c_ k.g.bW:=h
  obtain rfl:i=(iY k.g.bW).length:=by omega
  rw[List.drop_length]at iA
  have iA:oG k.ts.length k.image (iY k.g.bW) (jT k.g.bW) k.ts=some T:=iA
  have hR:k.wT=if k.image<=c_ k.g.bW/\jT k.g.bW<=k.image+1 then some T else none:=by unfold g_.wT;rw[iA]
  have hS:SL W (.pt sp (ry tp dp lp k.kx k.image) 58::.ob (jD tp T)::.ob (iM lp dp k.g)::_) _:=iC.iff.1 hS
  refine Gn λw hS=>?_
  have hS:=iC.put {k with ts:=T} hS Xp
  refine Cg (yi sp tp dp lp {k with ts:=T} hg hN) λw hS=>?_
  have hS:SL W (.pt sp (ry tp dp lp k.kx k.image) 58::.ob (jD tp T)::.ob (iM lp dp k.g)::_) _:=iC.iff.1 hS
  refine b9 (λh1=>?_) (λh1=>?_)
  ·have h1:k.image<=c_ k.g.bW:=h1
   refine Gp ?_
   have hS:=iC.put {k with ts:=T} hS Xp
   refine Cg (YT sp tp dp lp {k with ts:=T} hg hN) λw hS=>?_
   have hS:SL W (.pt sp (ry tp dp lp k.kx k.image) 58::.ob (jD tp T)::.ob (iM lp dp k.g)::_) _:=iC.iff.1 hS
   refine Gp ?_
   have hS:=iC.put {k with ts:=T} hS Xp
   by_cases h2:jT k.g.bW<=k.image+1
   ·rw[decide_eq_true (show jT ({k with ts:=T}:g_).g.bW<=k.image+1 from h2)]
    refine⟨[.ob (iC sp tp dp lp {k with ts:=T}),.mem H2],⟨H2,hh,?_⟩,aR hS⟩
    rw[hR,if_pos ⟨h1,h2⟩]
    exact⟨rfl,rfl⟩
   ·rw[decide_eq_false (show ¬jT ({k with ts:=T}:g_).g.bW<=k.image+1 from h2)]
    exact hF (by rw[hR,if_neg λh=>h2 h.2]) hh (aR hS)
  ·exact hF (by rw[hR,if_neg λh=>h1 h.1]) hh (aR hS)
def JQ(dp:Nat)(H:bw)(y:DS × Except Int g_)(r:Value)(post:List Chunk):Prop:=match y.2 with
 | .error e=>e≠0/\∃H',H.le H'/\r= .tuple #[.pointer none,.int .i64 e]/\post=[.ob (dI dp y.1),.mem H']
 | .ok k=>∃sp tp lp H',H.le H'/\r= .tuple #[eF sp,.int .i64 0]/\post=[.ob (iC sp tp dp lp k),.ob (dI dp y.1),.mem H']
theorem Tg{R:List PF}{n:Nat}{x:sh}(hx:x.2.2.length=n/\(0<=x.2.1/\x.2.1<=1099511627776)/\∀C∈x.2.2,BH C)(f:Int):(jX R n f x).2.2.length=n/\(0<=(jX R n f x).2.1/\(jX R n f x).2.1<=1099511627776)/\∀C∈(jX R n f x).2.2,BH C:=by
 refine⟨Ir hx.1,bIl hx.2.1,?_⟩
 unfold jX
 cases hi:lU R n f with
 | none=>exact hx.2.2
 | some y=>
  simp only
  split
  ·exact hx.2.2
  ·exact (uh.1 (EX hi).1).2
theorem Tf(R:List PF)(n:Nat):(pR R n).2.2.length=n/\(0<=(pR R n).2.1/\(pR R n).2.1<=1099511627776)/\∀C∈(pR R n).2.2,BH C:=
 Tg (Tg (x:=(-1,0,List.replicate n [])) ⟨List.length_replicate,⟨show (0:Int)<=0 by decide,show (0:Int)<=1099511627776 by decide⟩,λC hC=>by rw[(List.mem_replicate.1 hC).2];exact⟨List.Pairwise.nil,by simp,by decide⟩⟩ 0) 1
theorem cwz(H:bw)(dp:Nat)(d:DS)(k6 size:Int){N B:Nat}(cR:d.Ok B)(hB:B<=140737488355328)(hw:sY d.R 16 N)(hN:N<=900000000)(iP:d.ops<=90000)(hn:∀d' g,kV d 16 size=(d',.ok g)->(iY g.bW).length<=50000):
  SP 12 [eF dp,.int .i64 k6,.int .i64 size] [.ob (dI dp d),.mem H] (JQ dp H (sL d k6 size)):=by
 intro W F w hS;apply cI7;delta Kg aF dW ai gw;(try simp only[app]at hS)
 have hR:=cR.Bm
 refine Cc (cF5 k6) ?_;clear hS
 rintro r post hq w hS
 unfold BA at hq
 by_cases ht:k6<1\/8<k6
 ·rw[if_pos ht]at hq
  obtain⟨rfl,rfl⟩:=hq
  have e:sL d k6 size=(d,.error 1):=by unfold sL;rw[if_pos ht]
  rw[e]
  (try simp only[app]at hS);refine Gp ?_
  refine za (λ_=>?_) (λh=>absurd (by decide) h)
  exact⟨_,⟨by decide,H,bw.le_refl H,rfl,rfl⟩,aR hS⟩
 rw[if_neg ht]at hq
 obtain⟨tp,rfl,rfl⟩:=hq
 obtain⟨n,rfl⟩:∃n:Nat,k6=n:=⟨k6.toNat,by omega⟩
 rw[Int.toNat_natCast]at hS
 (try simp only[app]at hS);refine Gp ?_
 refine za (λh=>absurd rfl h) (λ_=>?_)
 refine Cc (bWj dp d 16 size cR hB hw (by omega) (by omega) (by omega)) ?_;clear hS
 rintro r post hq w hS
 unfold sL
 rw[if_neg ht]
 unfold FU at hq
 have Cl:=T2 (base:=16) (size:=size) cR
 cases xV:kV d 16 size with
 | mk d' o=>
  rw[xV]at hq Cl
  cases o with
  | error e=>
   obtain⟨he,rfl,rfl⟩:=hq
   (try simp only[app]at hS);refine Gp ?_
   refine za (λ_=>?_) (λh=>absurd he h)
   exact⟨_,⟨he,H,bw.le_refl H,rfl,rfl⟩,aR hS⟩
  | ok g=>
   obtain⟨lp,rfl,rfl⟩:=hq
   have hG:=T1 hw (by omega) xV
   have aWa:=hn d' g xV
   obtain⟨x1,x2,x3⟩:=Tf d'.R n
   (try simp only[app]at hS);refine Gp ?_
   refine za (λh=>absurd rfl h) (λ_=>?_)
   refine Gp ?_
   refine zC hS λsp w hS=>?_
   refine Cc (bIr sp tp dp lp d' H (-1,0,List.replicate n []) n List.length_replicate (by omega) Cl hB) ?_;clear hS
   rintro _ post ⟨H2,iS,rfl⟩ w hS
   try simp only[app]at hS
   have EG:jX d'.R n 1 (jX d'.R n 0 (-1,0,List.replicate n []))=pR d'.R n:=rfl
   rw[EG]at hS
   simp only[Int.toNat_natCast]
   generalize pR d'.R n=x at *
   obtain⟨nw,im,ts⟩:=x
   simp only at x1 x2 x3 hS ⊢
   have hS:=iC.o5 (d:=d') hS Xp
   refine Cc (b91 sp tp dp lp H2 ⟨g,d',ts,nw,im⟩ hG (by omega) (λC hC=>(x3 C hC).sorted) (L0:=1000) (λC hC=>(x3 C hC).len) (by show 1000+16*(iY g.bW).length<=900000;omega) x2) ?_;clear hS
   rintro r post ⟨H3,jA,hq⟩ w hS
   have mM:=bw.le_trans iS jA
   have hK:g_.wT ⟨g,d',ts,nw,im⟩=match oG n im (iY g.bW) (jT g.bW) ts with
    | none=>none
    | some ts=>if im<=c_ g.bW/\jT g.bW<=im+1 then some ts else none:=by rw[<- x1];rfl
   rw[hK]at hq
   clear hK
   cases hr:oG n im (iY g.bW) (jT g.bW) ts with
   | none=>
    rw[hr]at hq
    obtain⟨rfl,rfl⟩:=hq
    try simp only[app]at hS
    refine zQ (zw ?_)
    exact⟨_,⟨by decide,H3,mM,rfl,rfl⟩,aR hS⟩
   | some ts2=>
    rw[hr]at hq
    simp only at hq
    by_cases hc:im<=c_ g.bW/\jT g.bW<=im+1
    ·rw[if_pos hc]at hq
     obtain⟨rfl,rfl⟩:=hq
     try simp only[app]at hS
     refine zQ (zt ?_)
     simp only
     rw[if_pos hc]
     exact⟨_,⟨sp,tp,lp,H3,mM,rfl,rfl⟩,aR hS⟩
    ·rw[if_neg hc]at hq
     obtain⟨rfl,rfl⟩:=hq
     try simp only[app]at hS
     refine zQ (zw ?_)
     simp only
     rw[if_neg hc]
     exact⟨_,⟨by decide,H3,mM,rfl,rfl⟩,aR hS⟩
theorem cwy(H:bw)(dp:Nat)(d:DS)(k6 size:Int){N:Nat}(cR:d.Ok N)(hN:N<=900000000)(iP:d.ops<=90000)(hn:∀d' g,kV d 16 size=(d',.ok g)->(iY g.bW).length<=50000):
  SP 12 [eF dp,.int .i64 k6,.int .i64 size] [.ob (dI dp d),.mem H] (JQ dp H (sL d k6 size)):=
 cwz H dp d k6 size cR (by omega) (sY.all cR.len 16) hN iP hn
theorem QY(X:Chunk)(v:Value)(q:List UInt8)(hq:ix X v q)(hN:q.length<=10000000000):SP 173 [v] [X] (vd X q):=by
 intro W F w hS;apply cWo;delta K5 aF a_ ai bR;(try simp only[app]at hS)
 refine Cc (QZ X v q hq hN) ?_;clear hS
 rintro r post ⟨u,es,he,rfl,rfl⟩ w hS;(try simp only[app]at hS)
 have hr:=Un he
 have iT:∀{w:World},kf q=none->SL W (X::F) w->∃post,vd X q (.tuple #[.int .i64 0,.slice none 0 0,.int .i64 0,.int .i64 3]) post/\SL W (app post F) w:=λh hS=>⟨[X],by unfold vd;rw[h];exact⟨rfl,rfl⟩,hS⟩
 refine Gp ?_
 refine zx hS (v:=u) (t:=62) (sz:=1) (n:=es.length) (cells:=jB es) Xh ?_
 refine b9 (λh=>?_) (λh=>?_)
 ·have:es=[]:=List.eq_nil_of_length_eq_zero (by omega)
  subst this
  exact iT hr (aR hS)
 ·obtain⟨e,es,rfl⟩:∃e xv,es=e::xv:=by
   cases es with
   | nil=>simp at h
   | cons e es=>exact⟨e,es,rfl⟩
  have hr:kf q=(pO e.2).map λk=>(k,nH es,(lN q).2):=hr
  refine z8 (j:=0) hS (v:=u) (t:=62) (n:=(e::es).length) (cells:=jB (e::es)) Xh (by simp) (u:=e.1) rfl ?_
  have hS:=zi.take (t:=0) (x:=e) (SL.b_ hS (t:=.ob (zi jN (e::es))::.ob (bI u 62 1 (e::es).length (jB (e::es)))::X::F) Xi) rfl
  have e3:(e::es).eraseIdx 0=es:=rfl
  rw[e3]at hS
  have hR:ix (.ob (jN e)) e.1 e.2:=ix.own
  have q_:e.2.length<=1048576:=(UP (q.length+1) q (by omega)).1 e.2 (by rw[<- he];simp[nH])
  refine Cc (yX (.ob (jN e)) e.1 e.2 hR (by omega)) ?_;clear hS
  intro r post hQ w hS
  unfold se at hQ
  unfold pO at hr
  cases hd:lL e.2 with
  | error k=>
   rw[hd]at hQ hr
   obtain⟨rfl,rfl⟩:=hQ
   (try simp only[app]at hS);refine Gp ?_
   have hk:k≠0:=by
    intro hk
    rw[BR]at hd
    split at hd
    ·cases hd
    ·rename_i h0
     cases hd;exact h0 hk
   refine za (λ_=>?_) (λh=>absurd hk h)
   exact iT hr (aR hS)
  | ok l=>
   rw[hd]at hQ hr
   obtain⟨y,rfl,rfl⟩:=hQ
   (try simp only[app]at hS);refine Gp ?_
   refine za (λh=>absurd rfl h) (λ_=>?_)
   refine zx hS (v:=y) (t:=174) (sz:=3) (n:=l.length) (cells:=(l.map iR).flatten) Xh ?_
   refine b9 (λh1=>?_) (λh1=>?_)
   ·have:AR l=none:=by
     match l,h1 with
     | [],_=>rfl
     | [x],h1=>simp at h1
     | _::_::_,_=>rfl
    simp only[this,Option.map_none]at hr
    exact iT hr (aR hS)
   ·obtain⟨x,rfl⟩:∃x,l=[x]:=List.length_eq_one_iff.1 (by omega)
    have hx:AR [x]=if x.kind=1/\1<=x.n/\x.n<=1099511627776 then some x.n else none:=rfl
    simp only[hx]at hr
    refine zJ (j:=0) (i:=0) (x:=x) (xs:=[x]) hS (v:=y) (t:=174) (sz:=3) (n:=1) Xh p7 rfl (by omega) (u:=.int .i64 x.kind) rfl ?_
    refine b9 (λh2=>?_) (λh2=>?_)
    ·rw[if_neg (by omega)]at hr
     exact iT hr (aR hS)
    ·refine zJ (j:=0) (i:=1) (x:=x) (xs:=[x]) hS (v:=y) (t:=174) (sz:=3) (n:=1) Xh p7 rfl (by omega) (u:=.int .i64 x.n) rfl ?_
     refine b9 (λh3=>?_) (λh3=>?_)
     ·rw[if_neg (by omega)]at hr
      exact iT hr (aR hS)
     ·refine zJ (j:=0) (i:=1) (x:=x) (xs:=[x]) hS (v:=y) (t:=174) (sz:=3) (n:=1) Xh p7 rfl (by omega) (u:=.int .i64 x.n) rfl ?_
      refine b9 (λh4=>?_) (λh4=>?_)
      ·rw[if_neg (by omega)]at hr
       exact iT hr (aR hS)
      ·rw[if_pos ⟨by omega,by omega,by omega⟩]at hr
       refine Gn λw hS=>?_
       refine zJ (j:=0) (i:=1) (x:=x) (xs:=[x]) hS (v:=y) (t:=174) (sz:=3) (n:=1) Xh p7 rfl (by omega) (u:=.int .i64 x.n) rfl ?_
       have hS:=g8.of (SL.b_ hS (t:=.ob (bI u 62 1 (e::es).length (jB (e::es)))::.ob (zi jN es)::X::F) Xi)
       refine Q9 (k:=1) hS (by simp) ?_
       clear hS;intro z hS
       have e1:(e::es).length-1=es.length:=by simp
       have e2:(jB (e::es)).drop (1*1)=jB es:=rfl
       rw[e1,e2]at hS
       refine⟨[.ob (g8 z 62 1 es.length (jB es)),.ob (zi jN es),X],?_,aR hS⟩
       unfold vd
       rw[hr]
       exact⟨z,es,rfl,rfl,rfl⟩
def o3(base:Int)(ys:List YF):List YF:=ys.filter λy=>decide (base<=y.1.id/\y.1.id<base+4096)
theorem bWt{base:Int}{ys:List YF}{R:List PF}(h:ys.map Prod.fst=R):(o3 base ys).map (λy=>y.1.id)=jW base R:=by
 subst h
 unfold jW o3
 rw[List.map_map,List.filter_map]
 rfl
theorem bWu{base:Int}{ys:List YF}{y:YF}(h:y∈o3 base ys):y∈ys:=(List.mem_filter.1 h).1
theorem b_d(H:bw)(xp:Nat)(s:DS)(fv:Value)(ys:List YF)(lB:sV H ys)(base:Int)(b0:0<=base)(b1:base<=12288)(sH:ys.length<=100000):
  SP 172 [.pointer (some ⟨xp,0,none⟩),.int .i64 base] [.pt xp (kz fv s) 66,.ob (j3 fv ys)]
   (λv post=>post=[.ob (j3 v (o3 base ys)),.pt xp (kz fv s) 66,.ob (j3 fv ys)]):=by
 intro W F w hS;apply cWn;delta K4 aF bF a_ ai bR;(try simp only[app]at hS)
 have Cf:SL W (.ob (j3 (.slice none 0 0) (o3 base (ys.take 0)))::.pt xp (kz fv s) 66::.ob (j3 fv ys)::F) w:=bI.nil hS
 refine⟨λvs w=>∃(u:Value) (i:Nat),i<=ys.length/\vs=[u,.int .i64 i]/\SL W (.ob (j3 u (o3 base (ys.take i)))::.pt xp (kz fv s) 66::.ob (j3 fv ys)::F) w,
  λvs _=>match vs with|[_,.int _ i]=>(ys.length-i).toNat|_=>0,⟨_,0,by omega,rfl,Cf⟩,?_⟩
 clear hS Cf
 rintro v5 v6 w ⟨u,i,hi,jR,hS⟩
 cases jR
 refine Gp ?_
 refine zx hS (v:=fv) (t:=186) (sz:=3) (n:=ys.length) (cells:=(ys.map jQ).flatten) Xh ?_
 refine b9 (λh=>?_) (λh=>?_)
 ·have b8:i<ys.length:=by omega
  have hx:ys[i]?=some ys[i]:=List.getElem?_eq_getElem b8
  have lZ:o3 base (ys.take (i+1))=o3 base (ys.take i)++if base<=ys[i].1.id/\ys[i].1.id<base+4096 then [ys[i]] else []:=by
   unfold o3
   rw[List.take_add_one,hx,List.filter_append]
   congr 1
   simp only[Option.toList_some,List.filter_cons,List.filter_nil,decide_eq_true_eq]
  have A0:(o3 base (ys.take i)).length<=100000:=by
   unfold o3
   have:=List.length_filter_le (λy:YF=>decide (base<=y.1.id/\y.1.id<base+4096)) (ys.take i)
   rw[List.length_take]at this;omega
  have mn:=(lB _ (List.getElem_mem b8)).one
  generalize ys[i]=y at *
  refine Gp ?_
  refine zJ (i:=0) hS (v:=fv) (t:=186) Xh nX hx b8 (u:=.int .i64 y.1.id) rfl ?_
  refine b9 (λh1=>?_) (λh1=>?_)
  ·refine Gp ?_
   refine zJ (i:=0) hS (v:=fv) (t:=186) Xh nX hx b8 (u:=.int .i64 y.1.id) rfl ?_
   refine b9 (λh2=>?_) (λh2=>?_)
   ·rw[if_pos ⟨by omega,h2⟩]at lZ
    refine Gp ?_
    refine yd hS (v:=fv) (t:=186) Xh nX hx b8 ?_
    refine zD (cells:=jQ y) hS rfl ?_
    clear hS;intro p w hS
    have xB:∀v∈jQ y,v.oneCell'=true:=by
     intro v hv
     simp only[jQ,List.mem_cons,List.not_mem_nil,or_false]at hv
     rcases hv with rfl|rfl|rfl
     ·rfl
     ·rfl
     ·exact mn
    refine zy (m:=1) (cs:=jQ y) hS Xr (lX hS .hd rfl) rfl rfl xB (by omega) (by omega) ?_
    clear hS;intro u' w hS
    refine Gp ?_
    have e1:(o3 base (ys.take i)).length+1=(o3 base (ys.take (i+1))).length:=by rw[lZ,List.length_append];rfl
    have e2:((o3 base (ys.take i)).map jQ).flatten++jQ y=((o3 base (ys.take (i+1))).map jQ).flatten:=by rw[lZ];simp
    rw[e1,e2]at hS
    exact⟨⟨u',i+1,by omega,rfl,aR hS⟩,by dsimp only;omega⟩
   ·rw[if_neg (by omega),List.append_nil]at lZ
    refine Gp ?_
    exact⟨⟨_,i+1,by omega,rfl,by rw[lZ];exact hS⟩,by dsimp only;omega⟩
  ·rw[if_neg (by omega),List.append_nil]at lZ
   refine Gp ?_
   exact⟨⟨_,i+1,by omega,rfl,by rw[lZ];exact hS⟩,by dsimp only;omega⟩
 ·obtain rfl:i=ys.length:=by omega
  rw[List.take_length]at hS
  exact⟨_,rfl,hS⟩
def nR(t:Option w8):Int:=match t with
 | none=>-1
 | some x=>x.file
abbrev mN(sv:Value)(xp:Nat)(base size t:Int):List Value:=[.pointer (some ⟨xp,0,none⟩),.int .i64 base,.int .i64 size,sv,.int .i64 t]
abbrev l6(sv:Value)(xs:List f_):Chunk:=.ob (g8 sv 259 4 xs.length (xs.map jw).flatten)
def iB(lp xp:Nat)(g:iq):zE:=nr λx:Value × List f_=>zU (x.2.map f_.pl=g.bW) [.pt lp (mN x.1 xp g.base g.size (nR g.iw)) 254,l6 x.1 x.2,.ob (zi ia x.2)]
theorem iB.iff{W w:World}{lp xp:Nat}{g:iq}{l:List Chunk}:SL W (.ob (iB lp xp g)::l) w↔∃sv xs,xs.map f_.pl=g.bW/\SL W (.pt lp (mN sv xp g.base g.size (nR g.iw)) 254::l6 sv xs::.ob (zi ia xs)::l) w:=by
 unfold iB
 simp only[SL.ex,SL.fact,List.cons_append,List.nil_append]
 exact⟨λ⟨x,h1,h2⟩=>⟨x.1,x.2,h1,h2⟩,λ⟨a,b,h1,h2⟩=>⟨(a,b),h1,h2⟩⟩
theorem iB.close{W w:World}{lp xp:Nat}{g:iq}{l F:List Chunk}{sv:Value}{xs:List f_}(h:SL W l w)(hx:xs.map f_.pl=g.bW)(k:mI (.pt lp (mN sv xp g.base g.size (nR g.iw)) 254::l6 sv xs::.ob (zi ia xs)::F) l):SL W (app [.ob (iB lp xp g)] F) w:=
 iB.iff.2 ⟨sv,xs,hx,h.b_ k⟩
theorem iB.DT{W w:World}{lp xp:Nat}{L:List g6}{base size:Int}{l F:List Chunk}{sv:Value}{xs:List f_}(h:SL W l w)(hx:xs.map f_.pl=L)(k:mI (.pt lp (mN sv xp base size (-1)) 254::l6 sv xs::.ob (zi ia xs)::F) l):SL W (app [.ob (iB lp xp ⟨L,base,size,none⟩)] F) w:=
 iB.iff.2 ⟨sv,xs,hx,h.b_ k⟩
theorem iB.T3{W w:World}{lp xp:Nat}{L:List g6}{base size:Int}{F:List Chunk}(h:SL W (.ob (iB lp xp ⟨L,base,size,none⟩)::F) w):∃sv xs,xs.map f_.pl=L/\SL W (.pt lp (mN sv xp base size (-1)) 254::l6 sv xs::.ob (zi ia xs)::F) w:=iB.iff.1 h
section
variable {W w:World} {l:List Chunk}
theorem cwe{v:Value}{xs:List f_}{j:Nat}{k:IntKind}{K:Value->Prop}(h:SL W l w)(m:Has (l6 v xs) l)(hj:j<xs.length)(hK:K (.agg (jw xs[j]).toArray)):ze 4 v (.int k (j:Int)) λp=>zh 4 p w K:=by
 refine yF h m hj λb o hb=>⟨⟨b,o,none⟩,jw xs[j],rfl,rfl,λi u hu=>?_,hK⟩
 rw[Addr.add_lit]
 have hi:i<4:=(List.getElem?_eq_some_iff.1 hu).1
 exact hb i u hi (xw vY hj hu)
theorem yp{v u:Value}{xs:List f_}{i j:Nat}{k:IntKind}{K:Value->Prop}(h:SL W l w)(m:Has (l6 v xs) l)(hj:j<xs.length)(hu:(jw xs[j])[i]?=some u)(hK:K u):ze 4 v (.int k (j:Int)) λp=>zq i p λq=>cI q w K:=by
 refine yF h m hj λb o hb=>?_
 refine zW ?_
 have hi:i<4:=(List.getElem?_eq_some_iff.1 hu).1
 exact⟨_,u,rfl,hb i u hi (xw vY hj hu),hK⟩
end
theorem yg(lp xp:Nat)(sv:Value)(xs:List f_)(base size t:Int)(hl:xs.length<=1000000000000000):SP 175 [.pointer (some ⟨lp,0,none⟩)] [.pt lp (mN sv xp base size t) 254,l6 sv xs]
  (eW (.int .i64 ((xs.length:Int)-1)) [.pt lp (mN sv xp base size t) 254,l6 sv xs]):=by
 intro W F w hS;apply cWq;delta K7 bF ai;(try simp only[app]at hS)
 refine Gp ?_
 refine zY hS (v:=sv) (t:=259) (sz:=4) (n:=xs.length) (cells:=(xs.map jw).flatten) Xh ?_
 refine Gp ?_
 exact⟨_,⟨rfl,rfl⟩,hS⟩
theorem ZE(lp xp:Nat)(g:iq){M:Nat}(hg:g.Ok M)(hM:M<=1000000000000):SP 87 [.pointer (some ⟨lp,0,none⟩)] [.ob (iB lp xp g)] (eW (.int .i64 (jT g.bW)) [.ob (iB lp xp g)]):=by
 intro W F w hS;apply dWi;delta Ou aF bF a_ ai;(try simp only[app]at hS)
 obtain⟨sv,xs,hx,hS⟩:=iB.iff.1 hS
 obtain⟨h1,h2,_,_⟩:=hg.xs hx
 refine Gp ?_
 refine zY hS (v:=sv) (t:=259) (sz:=4) (n:=xs.length) (cells:=(xs.map jw).flatten) Xh ?_
 refine b9 (λh0=>?_) (λh0=>?_)
 ·have:xs=[]:=List.eq_nil_of_length_eq_zero (by omega)
  have e:jT g.bW=1:=by rw[<- hx,this];rfl
  rw[e]
  exact⟨_,⟨rfl,rfl⟩,iB.close hS hx Xi⟩
 ·cases xs with
  | nil=>simp at h0
  | cons x xs=>
   have e:jT g.bW=x.first:=by rw[<- hx];rfl
   rw[e]
   refine Gp ?_
   refine yp (j:=0) (i:=1) hS Xh (by simp) (u:=.int .i64 x.first) rfl ?_
   exact⟨_,⟨rfl,rfl⟩,iB.close hS hx Xi⟩
theorem y7(lp xp:Nat)(sv:Value)(xs:List f_)(base size t:Int){M:Nat}(h1:∀s∈xs.map f_.pl,m_ s M)(h2:xs.length<=1000000000000)(hM:M<=1000000000000):SP 86 [.pointer (some ⟨lp,0,none⟩)] [.pt lp (mN sv xp base size t) 254,l6 sv xs] (eW (.int .i64 (c_ (xs.map f_.pl))) [.pt lp (mN sv xp base size t) 254,l6 sv xs]):=by
 intro W F w hS;apply dWh;delta Ot aF bF a_ aW d_ ai bR;(try simp only[app]at hS)
 refine Gp ?_
 refine zY hS (v:=sv) (t:=259) (sz:=4) (n:=xs.length) (cells:=(xs.map jw).flatten) Xh ?_
 refine b9 (λh0=>?_) (λh0=>?_)
 ·have:xs=[]:=List.eq_nil_of_length_eq_zero (by omega)
  have e:c_ (xs.map f_.pl)=0:=by rw[this];rfl
  rw[e]
  exact fw hS
 ·refine Gn λw hS=>?_
  have hj:xs.length-1<xs.length:=by omega
  have Hi:c_ (xs.map f_.pl)=(xs[xs.length-1]'hj).first-1+((xs[xs.length-1]'hj).es.length:Nat):=by
   unfold c_
   rw[List.getLast?_map,List.getLast?_eq_getElem?,List.getElem?_eq_getElem hj]
   show (xs[xs.length-1]'hj).pl.next-1=_
   rw[Vx];omega
  have cR:=h1 _ (List.mem_map.2 ⟨_,List.getElem_mem hj,rfl⟩)
  have e:((xs.length:Nat):Int)-1=((xs.length-1:Nat):Int):=by omega
  have k1:1<=(xs[xs.length-1]'hj).first:=cR.n0
  have k2:(xs[xs.length-1]'hj).first<=1099511627776:=cR.n1
  have k3:(xs[xs.length-1]'hj).es.length<=M:=by have:=cR.ln;simpa [f_.pl,tG] using this
  have a_r:∀{w:World} {l:List Chunk} {K:Value->Prop},SL W l w->Has (l6 sv xs) l->K (.agg #[.int .i64 (xs[xs.length-1]'hj).file,.int .i64 (xs[xs.length-1]'hj).first,.int .i64 ((xs[xs.length-1]'hj).size:Nat),.slice (xs[xs.length-1]'hj).a (xs[xs.length-1]'hj).es.length (xs[xs.length-1]'hj).c])->ze 4 sv (.int .i64 ((xs.length-1:Nat):Int)) λp=>zh 4 p w K:=λhS m hK=>cwe hS m hj hK
  have a_s:∀{w:World} {l:List Chunk} {K:Value->Prop},SL W l w->Has (l6 sv xs) l->(∀p,(∀(w':World) (l':List Chunk) (K':Value->Prop),SL W l' w'->Has (l6 sv xs) l'->K' (.agg #[.int .i64 (xs[xs.length-1]'hj).file,.int .i64 (xs[xs.length-1]'hj).first,.int .i64 ((xs[xs.length-1]'hj).size:Nat),.slice (xs[xs.length-1]'hj).a (xs[xs.length-1]'hj).es.length (xs[xs.length-1]'hj).c])->zh 4 p w' K')->K p)->ze 4 sv (.int .i64 ((xs.length-1:Nat):Int)) K:=by
   intro w l K hS m hK
   obtain⟨l2,r⟩:=m.rem
   rcases g8.open (hS.perm r.perm) with ⟨_,G2,_⟩|⟨b,pre,cap,rest,uV,hc,hl,hr,_⟩
   ·omega
   ·rw[uV]
    refine zH hj (hK _ λw' l' K' kL m' hK'=>?_)
    obtain⟨l3,r3⟩:=m'.rem
    rcases g8.open (kL.perm r3.perm) with ⟨_,G2,_⟩|⟨b',eIb,vk,eIc,HO,xF,uS,EL,wB⟩
    ·omega
    ·rw[uV]at HO
     simp only[Value.slice.injEq,Option.some.injEq,Addr.mk.injEq,true_and,and_true]at HO
     obtain⟨⟨rfl,j7⟩,rfl⟩:=HO
     rw[j7]
     refine⟨_,_,rfl,rfl,λi u hu=>?_,hK'⟩
     rw[Addr.add_lit]
     refine wB.cell .hd ?_
     have hi:i<4:=(List.getElem?_eq_some_iff.1 hu).1
     have:=xw vY hj (i:=i) (u:=u) hu
     rw[Nat.add_assoc,List.getElem?_append_right (by omega),Nat.add_sub_cancel_left,List.getElem?_append_left (List.getElem?_eq_some_iff.1 this).1]
     exact this
  rw[Hi]
  generalize xs[xs.length-1]'hj=x at *
  refine⟨?_,?_⟩
  ·refine Cg (yg lp xp sv xs base size t (by omega)) λw hS=>?_
   rw[e]
   refine a_s hS Xh λp hp=>?_
   refine hp _ _ _ hS Xh ?_
   refine Gm λb w hS=>?_
   refine hp _ _ _ hS Xh ?_
   refine Gn λw hS=>?_
   exact fw hS
  ·refine Gm λb w hS=>?_
   refine Cg (yg lp xp sv xs base size t (by omega)) λw hS=>?_
   rw[e]
   refine a_r hS Xh ?_
   refine Gn λw hS=>?_
   exact fw hS
theorem zT(lp xp:Nat)(g:iq){M:Nat}(hg:g.Ok M)(hM:M<=1000000000000):SP 86 [.pointer (some ⟨lp,0,none⟩)] [.ob (iB lp xp g)] (eW (.int .i64 (c_ g.bW)) [.ob (iB lp xp g)]):=by
 intro W F w hS
 obtain⟨sv,xs,hx,hS⟩:=iB.iff.1 hS
 obtain⟨h1,h2,_,_⟩:=hg.xs hx
 refine Cc (y7 lp xp sv xs g.base g.size (nR g.iw) h1 (by omega) hM) ?_;clear hS
 rintro v post ⟨rfl,rfl⟩ w hS;(try simp only[app]at hS)
 rw[hx]
 exact⟨_,⟨rfl,rfl⟩,iB.close hS hx Xi⟩
theorem qX(lp xp:Nat)(g:iq)(n:Int){M:Nat}(hg:oM g M)(hM:M<=1000000000000)(hn : -9000000000000000000<=n/\n<=9000000000000000000):
  SP 179 [.pointer (some ⟨lp,0,none⟩),.int .i64 n] [.ob (iB lp xp g)] (BE [.ob (iB lp xp g)] (lE g.bW n)):=by
 intro W F w hS;apply cWu;delta La aF bF a_ ai bR;(try simp only[app]at hS)
 refine Cg (ZE lp xp g hg.ok hM) λw hS=>?_
 refine za (λh1=>?_) (λh1=>?_)
 ·rw[Um g.bW n hg.seq (λs _=>by omega) h1]
  exact⟨_,⟨rfl,rfl⟩,hS⟩
 ·skip
  refine Cg (zT lp xp g hg.ok hM) λw hS=>?_
  refine za (λh2=>?_) (λh2=>?_)
  ·rw[Uk g.bW n hg.seq h2]
   exact⟨_,⟨rfl,rfl⟩,hS⟩
  ·have xI:tN g.bW n=lE g.bW n:=Rb g.bW n hg.seq λs hs=>by
    cases hL:g.bW with
    | nil=>rw[hL]at hs;cases hs
    | cons a r=>
     rw[hL]at hs h1
     cases hs
     have:¬n<s.first:=h1
     omega
   rw[<- xI]
   obtain⟨sv,xs,hx,hS⟩:=iB.iff.1 hS
   obtain⟨cR,hl,_,_⟩:=hg.ok.xs hx
   have CR:lA (xs.map f_.pl):=by rw[hx];exact hg.seq
   have R6:∀s,((xs.drop 0).map f_.pl).head?=some s->s.first<=n:=by
    intro s hs
    rw[List.drop_zero]at hs
    cases xs with
    | nil=>cases hs
    | cons a r=>
     cases hs
     have:¬n<jT g.bW:=h1
     rw[<- hx]at this
     have:¬n<a.pl.first:=this
     omega
   rw[<- hx]
   refine⟨λvs w=>∃i:Nat,i<=xs.length/\vs=[.int .i64 i]/\tN (xs.map f_.pl) n=tN ((xs.drop i).map f_.pl) n/\(∀s,((xs.drop i).map f_.pl).head?=some s->s.first<=n)/\SL W (.pt lp (mN sv xp g.base g.size (nR g.iw)) 254::l6 sv xs::.ob (zi ia xs)::F) w,
    λvs _=>match vs with|[.int _ i]=>xs.length-i.toNat|_=>0,⟨0,by omega,rfl,rfl,R6,aR hS⟩,?_⟩
   clear hS R6
   rintro v6 w ⟨i,hi,hv,hr,CD,hS⟩
   cases hv
   rw[hr]
   refine Gp ?_
   refine zY hS (v:=sv) (t:=259) (sz:=4) (n:=xs.length) (cells:=(xs.map jw).flatten) Xh ?_
   refine b9 (λh0=>?_) (λh0=>?_)
   ·have hj:i<xs.length:=by omega
    have SF:xs[i]?=some xs[i]:=List.getElem?_eq_getElem hj
    have cR:=cR _ (List.mem_map.2 ⟨_,List.getElem_mem hj,rfl⟩)
    have Cm:(xs.drop i).map f_.pl=xs[i].pl::(xs.drop (i+1)).map f_.pl:=by rw[List.drop_eq_getElem_cons hj];rfl
    have HJ:=CR.drop i
    rw[<- List.map_drop,Cm]at HJ
    rw[Cm]at CD ⊢
    have aWu:=CD _ rfl
    have lZ:tN (xs[i].pl::(xs.drop (i+1)).map f_.pl) n=if n-xs[i].pl.first<xs[i].pl.l.length then xs[i].pl.l[(n-xs[i].pl.first).toNat]? else tN ((xs.drop (i+1)).map f_.pl) n:=rfl
    rw[lZ]
    have oV:¬n-xs[i].pl.first<xs[i].pl.l.length->∀s,((xs.drop (i+1)).map f_.pl).head?=some s->s.first<=n:=by
     intro h s hs
     cases hL:(xs.drop (i+1)).map f_.pl with
     | nil=>rw[hL]at hs;cases hs
     | cons a r=>
      rw[hL]at hs HJ
      cases hs
      have:=HJ.1
      simp only[g6.next]at this
      omega
    have k1:=cR.n0
    have k2:=cR.n1
    refine Gp ?_
    refine yp (i:=1) hS Xh hj (u:=.int .i64 xs[i].first) rfl ?_
    have e1:xs[i].pl.first=xs[i].first:=rfl
    have e2:xs[i].pl.l.length=xs[i].es.length:=by simp[f_.pl,tG]
    have e3:xs[i].pl.l=nH xs[i].es:=rfl
    rw[e1]at k1 k2 aWu
    refine Gp ?_
    refine yp (i:=3) hS Xh hj (u:=.slice xs[i].a xs[i].es.length xs[i].c) rfl ?_
    refine b9 (λh3=>?_) (λh3=>?_)
    ·rw[if_pos (by rw[e1,e2];exact h3)]
     obtain⟨j,Ho⟩:=Int.eq_ofNat_of_zero_le (show 0<=n-xs[i].first by omega)
     have jI:j<xs[i].es.length:=by omega
     refine Gm λb w hS=>?_
     have hS:=bI.full (n:=0) (sz:=1) rfl hS
     refine yp (i:=3) hS Xh hj (u:=.slice xs[i].a xs[i].es.length xs[i].c) rfl ?_
     rw[e1,Ho]
     have hS:=zi.take (SL.b_ hS (t:=.ob (zi ia xs)::.ob (bI (.slice (some ⟨b,0,none⟩) 0 0) 5 1 0 [])::.pt lp (mN sv xp g.base g.size (nR g.iw)) 254::l6 sv xs::F) Xi) SF
     have hS:=ia.iff.1 hS
     unfold f_.lv at hS
     refine yF (j:=j) hS .hd jI λp o hb=>?_
     have Co:xs[i].es[j]?=some xs[i].es[j]:=List.getElem?_eq_getElem jI
     have pA:(jB xs[i].es)[j*1+0]?=some xs[i].es[j].1:=by simp[jB,jI]
     refine⟨_,_,rfl,hb 0 _ (by omega) pA,?_⟩
     have hS:=zi.take (SL.b_ hS (t:=.ob (zi jN xs[i].es)::.ob (g8 (.slice xs[i].a xs[i].es.length xs[i].c) 62 1 xs[i].es.length (jB xs[i].es))::.ob (zi ia (xs.eraseIdx i))::.ob (bI (.slice (some ⟨b,0,none⟩) 0 0) 5 1 0 [])::.pt lp (mN sv xp g.base g.size (nR g.iw)) 254::l6 sv xs::F) Xi) Co
     have vx:xs[i].es[j].2.length<=1048576:=cR.bl _ (List.mem_map.2 ⟨_,List.getElem_mem jI,rfl⟩)
     have Hd:xs[i].pl.l[((j:Int)).toNat]?=some xs[i].es[j].2:=by rw[e3];simp[nH,jI]
     rw[Hd]
     have hR:ix (.ob (jN xs[i].es[j])) xs[i].es[j].1 xs[i].es[j].2:=ix.own
     refine zy (t:=5) (sz:=1) (n:=0) (cells:=[]) (m:=xs[i].es[j].2.length) (cs:=xs[i].es[j].2.map fI) hS Xr (hR.src hS .hd) (by simp) rfl (nE _) (by omega) (by omega) ?_
     clear hS;intro u w hS
     rw[Nat.zero_add,List.nil_append]at hS
     have hS:=zi.back (SL.b_ hS (t:=.ob (jN xs[i].es[j])::.ob (zi jN (xs[i].es.eraseIdx j))::.ob (g8 (.slice xs[i].a xs[i].es.length xs[i].c) 62 1 xs[i].es.length (jB xs[i].es))::.ob (bI u 5 1 xs[i].es[j].2.length (xs[i].es[j].2.map fI))::.ob (zi ia (xs.eraseIdx i))::.pt lp (mN sv xp g.base g.size (nR g.iw)) 254::l6 sv xs::F) Xi) Co
     have hS:=(ia.iff (x:=xs[i])).2 (SL.b_ hS (t:=.ob (g8 (.slice xs[i].a xs[i].es.length xs[i].c) 62 1 xs[i].es.length (jB xs[i].es))::.ob (zi jN xs[i].es)::.ob (bI u 5 1 xs[i].es[j].2.length (xs[i].es[j].2.map fI))::.ob (zi ia (xs.eraseIdx i))::.pt lp (mN sv xp g.base g.size (nR g.iw)) 254::l6 sv xs::F) Xi)
     have hS:=zi.back (SL.b_ hS (t:=.ob (ia xs[i])::.ob (zi ia (xs.eraseIdx i))::.ob (bI u 5 1 xs[i].es[j].2.length (xs[i].es[j].2.map fI))::.pt lp (mN sv xp g.base g.size (nR g.iw)) 254::l6 sv xs::F) Xi) SF
     have hS:=iB.close (lp:=lp) (xp:=xp) (F:=.ob (bI u 5 1 xs[i].es[j].2.length (xs[i].es[j].2.map fI))::F) hS hx Xi
     exact⟨_,⟨u,rfl,rfl⟩,aR hS⟩
    ·rw[if_neg (by rw[e1,e2];exact h3)]
     refine Gp ?_
     exact⟨⟨i+1,by omega,rfl,rfl,oV (by rw[e1,e2];exact h3),aR hS⟩,by simp only[Int.toNat_natCast];omega⟩
   ·have:xs.drop i=[]:=List.drop_eq_nil_of_le (by omega)
    rw[this]
    exact⟨_,⟨rfl,rfl⟩,iB.close hS hx Xi⟩
def Dx(H:bw)(xp:Nat)(y:DS × Except Int iq)(r:Value)(post:List Chunk):Prop:=match y.2 with
 | .error e=>e≠0/\r= .tuple #[.pointer none,.int .i64 e]/\∃H',H.le H'/\post=[.ob (eI H' xp y.1),.mem H']
 | .ok g=>∃(lp:Nat) (H':bw),H.le H'/\r= .tuple #[.pointer (some ⟨lp,0,none⟩),.int .i64 0]/\post=[.ob (iB lp xp g),.ob (eI H' xp y.1),.mem H']
structure JS(R:List PF)(ids:List Int)(i:Nat)(L:List g6)(wh:Bool)(next:Int)(M:Nat):Prop where
 le:i<=ids.length
 eq:m0 R ids none [] true=m0 R (ids.drop i) (if i=0 then none else ids[i-1]?) L wh
 len:(wh=true/\L.length=i)\/(wh=false/\i=ids.length/\L.length+1=i)
 next:0<i->wh=true->next=c_ L+1
 ok:∀s∈L,m_ s M
theorem b94(H:bw)(xp:Nat)(s:DS)(base size:Int){N B:Nat}(cR:s.Ok B)(hB:B<=140737488355328)(hw:sY s.R base N)(hN:N<=1000000000)(hR:s.R.length<=100000)(iP:s.ops<=100000):
  SP 84 [.pointer (some ⟨xp,0,none⟩),.int .i64 base,.int .i64 size] [.ob (eI H xp s),.mem H] (Dx H xp (kV s base size)):=by
 intro W F w hS;apply dWf;delta Oo aF bF a_ fR aW d_ dW ai gw bR;(try simp only[app]at hS)
 have hE:∀{w:World} {e:Int},kV s base size=(s,.error e)->e≠0->SL W (.ob (eI H xp s)::.mem H::F) w->∃post,Dx H xp (kV s base size) (.tuple #[.pointer none,.int .i64 e]) post/\SL W (app post F) w:=λh he hS=>⟨[.ob (eI H xp s),.mem H],by rw[h];exact⟨he,rfl,H,bw.le_refl H,rfl⟩,hS⟩
 by_cases xE:base<0\/12288<base\/size<64\/65536<size
 ·have e:kV s base size=(s,.error 1):=by unfold kV;rw[if_pos xE]
  refine Gp ?_
  refine za (λh=>hE e (by decide) hS) (λh1=>?_)
  refine Gp ?_
  refine za (λh=>hE e (by decide) hS) (λh2=>?_)
  refine Gp ?_
  refine za (λh=>hE e (by decide) hS) (λh3=>?_)
  refine Gp ?_
  refine za (λh=>hE e (by decide) hS) (λh4=>by omega)
 ·refine Gp ?_
  refine za (λh=>by omega) (λ_=>?_)
  refine Gp ?_
  refine za (λh=>by omega) (λ_=>?_)
  refine Gp ?_
  refine za (λh=>by omega) (λ_=>?_)
  refine Gp ?_
  refine za (λh=>by omega) (λ_=>?_)
  obtain⟨fv,ys,⟨he,lB⟩,hS⟩:=eI.iff.1 hS
  have sH:ys.length=s.R.length:=by rw[<- he,List.length_map]
  have kN:∀{w:World} {l F':List Chunk},SL W l w->kI [.pt xp (kz fv s) 66,.ob (j3 fv ys)] l F'->SL W (.ob (eI H xp s)::F') w:=λh k=>eI.iff.2 ⟨fv,ys,⟨he,lB⟩,h.pick k⟩
  refine Gp ?_
  refine yO (λho=>?_) (λho=>?_)
  ·have e:kV s base size=(s,.error 8):=by unfold kV;rw[if_neg xE,if_pos ho]
   exact hE e (by decide) (SL.b_ (kN hS Xp) Xi)
  ·have eo:kV s base size=match m0 s.R (jW base s.R) none [] true with
    | none=>(s,.error 3)
    | some (L,whole)=>if (lK L s (jW base s.R) whole).2≠0 then ((lK L s (jW base s.R) whole).1,.error (lK L s (jW base s.R) whole).2) else ((lK L s (jW base s.R) whole).1,.ok ⟨L,base,size,none⟩):=by
    unfold kV;rw[if_neg xE,if_neg (by rw[ho];decide)];rfl
   have hi:∀f∈jW base s.R,base<=f/\f<base+4096:=λf hf=>Ig hf
   have b8:=Ie base s.R
   have Ct:=bWt (base:=base) he
   refine Gp ?_
   refine⟨_,rfl,zI hS ?_⟩
   clear hS;intro lp w hS
   refine Cc (b_d H xp s fv ys lB base (by omega) (by omega) (by omega)) ?_;clear hS
   rintro ov post rfl w hS;(try simp only[app]at hS)
   have hS:=g8.sK (a:=none) (t:=259) (sz:=4) hS
   have hS:=zi.nil (A:=ia) hS
   have hS:=SL.b_ hS (t:=.pt lp (mN (.slice none 0 0) xp base size (-1)) 254::.ob (g8 (.slice none 0 0) 259 4 0 [])::.ob (zi ia [])::.ob (j3 ov (o3 base ys))::.pt xp (kz fv s) 66::.ob (j3 fv ys)::.mem H::F) Xi
   have hS:=(iB.iff (g:=⟨[],base,size,none⟩)).2 ⟨_,[],rfl,hS⟩
   have C1:∀y∈o3 base ys,y∈ys:=λy hy=>bWu hy
   generalize hzs:o3 base ys=zs at *
   generalize d_9:jW base s.R=ids at *
   have C0:zs.length=ids.length:=by rw[<- Ct,List.length_map]
   have xJ:∀j (h:j<zs.length) (h':j<ids.length),ids[j]=zs[j].1.id:=λj h h'=>by
    have:ids[j]?=some zs[j].1.id:=by rw[<- Ct,List.getElem?_map,List.getElem?_eq_getElem h];rfl
    rw[List.getElem?_eq_getElem h']at this
    exact Option.some.inj this
   have R3:∀j (h:j<zs.length),iz PF.id s.R zs[j].1.id=some zs[j].1:=λj h=>AJ cR.sorted (by rw[<- he];exact List.mem_map.2 ⟨_,C1 _ (List.getElem_mem h),rfl⟩)
   have Eg:∀{w:World} {l F':List Chunk},m0 s.R ids none [] true=none->SL W (.ob (eI H xp s)::.mem H::F) w->∃post,Dx H xp (kV s base size) (.tuple #[.pointer none,.int .i64 3]) post/\SL W (app post F) w:=λh hS=>hE (by rw[eo,h]) (by decide) hS
   have RD:JS s.R ids 0 [] true 0 (N+100000):=⟨Nat.zero_le _,rfl,.inl ⟨rfl,rfl⟩,λh=>by omega,by simp⟩
   refine⟨λvs w=>∃(i:Nat) (next:Int) (L:List g6) (wh:Bool),vs=[.int .i64 next,.int .i64 i]/\JS s.R ids i L wh next (N+100000)/\SL W (.ob (iB lp xp ⟨L,base,size,none⟩)::.ob (j3 ov zs)::.pt xp (kz fv s) 66::.ob (j3 fv ys)::.mem H::F) w,
    λvs _=>match vs with|[_,.int _ i]=>(ids.length-i).toNat|_=>0,⟨0,0,[],true,rfl,RD,aR hS⟩,?_⟩
   clear hS RD
   rintro v10 v11 w ⟨i,next,L,wh,jR,hA,hS⟩
   cases jR
   have eFb:=hA.le
   have G8:L.length<=100000:=by rcases hA.len with ⟨_,h⟩|⟨_,_,h⟩<;>omega
   have G7:(⟨L,base,size,none⟩:iq).Ok (N+100000):=⟨hA.ok,by show 0<=base;omega,by show base<=12288;omega,by show 64<=size;omega,by show size<=65536;omega,by show L.length<=_;omega⟩
   refine zx hS (v:=ov) (t:=186) (sz:=3) (n:=zs.length) (cells:=(zs.map jQ).flatten) Xh ?_
   refine b9 (λh1=>?_) (λh1=>?_)
   ·have Cv:i<zs.length:=by omega
    have Cu:i<ids.length:=by omega
    have H0:wh=true/\L.length=i:=by
     rcases hA.len with h|⟨_,h,_⟩
     ·exact h
     ·omega
    obtain⟨rfl,hLi⟩:=H0
    have hx:zs[i]?=some zs[i]:=List.getElem?_eq_getElem Cv
    have hid:=xJ i Cv Cu
    have tS:=R3 i Cv
    have EU:=lB _ (C1 _ (List.getElem_mem Cv))
    have vA:=hi _ (List.getElem_mem Cu)
    have heq:=hA.eq
    rw[List.drop_eq_getElem_cons Cu,C7,hid]at heq
    rw[hid]at vA
    have hyN:zs[i].1.b.length<=N:=hw.at_ vA _ tS
    have R4:0<i->∀h:i-1<zs.length,vq (if i=0 then none else ids[i-1]?) zs[i].1.id=decide (zs[i].1.id≠zs[i-1].1.id+1):=λh0 h=>by
     rw[if_neg (by omega),List.getElem?_eq_getElem (show i-1<ids.length by omega),xJ (i-1) h (by omega)];rfl
    have aWl:i=0->vq (if i=0 then none else ids[i-1]?) zs[i].1.id=false:=λh=>by rw[if_pos h];rfl
    have rU:(ids.drop (i+1)).isEmpty=decide (i+1=ids.length):=by
     rw[Bool.eq_iff_iff,decide_eq_true_iff,List.isEmpty_iff,List.drop_eq_nil_iff]
     omega
    rw[rU]at heq
    have rV:mA L s.R zs[i].1.id (decide (i+1=ids.length))=match kf zs[i].1.b with
     | none=>((false,decide (i+1=ids.length)),L)
     | some (first,l,n)=>if ((decide (i+1=ids.length)=false/\(n≠zs[i].1.b.length\/l.length=0))\/(0<L.length/\first≠c_ L+1)\/1099511627776<first+l.length-1) then ((true,false),L)
      else ((true,true),L++[⟨zs[i].1.id,first,n,l⟩]):=by
     unfold mA
     rw[tS];rfl
    have Ht:=Is (L:=L) (f:=zs[i].1.id) (last:=decide (i+1=ids.length)) (M:=N+100000) (hw.at_ vA) (by omega) (by omega) (by omega) hA.ok
    have Sq:∀h:i-1<zs.length,(zs[i-1]?)=some zs[i-1]:=λh=>List.getElem?_eq_getElem h
    have Sr:∀h:i-1<zs.length,base<=zs[i-1].1.id/\zs[i-1].1.id<base+4096:=λh=>by
     have:=hi _ (List.getElem_mem (show i-1<ids.length by omega))
     rwa [xJ (i-1) h (by omega)]at this
    refine yd hS (v:=ov) (t:=186) Xh nX hx Cv ?_
    generalize zs[i]=y at *
    obtain⟨yf,yv⟩:=y
    simp only at *
    obtain⟨_,ya,yc,rfl,_,_⟩:=id EU
    refine zI hS ?_
    clear hS;intro fb w hS
    refine zB (vs:=[.int .i64 yf.id,.int .i64 (yf.safe:Int),.slice ya yf.b.length yc]) hS Xu rfl rfl (by simp[Value.oneCell']) ?_
    clear hS;intro w hS
    by_cases hg:vq (if i=0 then none else ids[i-1]?) yf.id=true
    ·
     have iT:m0 s.R ids none [] true=none:=by
      rw[heq]
      split
      ·rfl
      ·first|rfl|rw[if_pos hg]
     refine⟨λvs w=>False,?_,λw h=>h.elim⟩
     refine Gn λw hS=>?_
     refine za (λh2=>?_) (λh2=>?_)
     ·have oU:i-1<zs.length:=by omega
      refine Gp ?_
      have e:((i:Nat):Int)-1=((i-1:Nat):Int):=by omega
      rw[e]
      have uT:=Sr oU
      refine zJ (i:=0) hS (v:=ov) (t:=186) Xh nX (Sq oU) oU (u:=.int .i64 zs[i-1].1.id) rfl ?_
      refine Gp ?_
      have Ew:=R4 (by omega) oU
      rw[hg]at Ew
      refine za (λh3=>?_) (λh3=>absurd (of_decide_eq_true Ew.symm) h3)
      exact Eg (l:=[]) (F':=[]) iT (SL.b_ (kN hS Xp) Xi)
     ·rw[aWl (by omega)]at hg;cases hg
    ·rw[if_neg hg]at heq
     refine⟨λvs w=>vs=[]/\SL W (.pt fb [.int .i64 yf.id,.int .i64 (yf.safe:Int),.slice ya yf.b.length yc] 186::.ob (iB lp xp ⟨L,base,size,none⟩)::.ob (j3 ov zs)::.pt xp (kz fv s) 66::.ob (j3 fv ys)::.mem H::F) w,?_,?_⟩
     ·refine Gn λw hS=>?_
      refine za (λh2=>?_) (λh2=>⟨rfl,aR hS⟩)
      have oU:i-1<zs.length:=by omega
      refine Gp ?_
      have e:((i:Nat):Int)-1=((i-1:Nat):Int):=by omega
      rw[e]
      have uT:=Sr oU
      refine zJ (i:=0) hS (v:=ov) (t:=186) Xh nX (Sq oU) oU (u:=.int .i64 zs[i-1].1.id) rfl ?_
      refine Gp ?_
      have Ew:=R4 (by omega) oU
      refine za (λh3=>absurd (by rw[Ew];exact decide_eq_true h3) hg) (λh3=>?_)
      exact⟨rfl,aR hS⟩
     ·clear hS
      rintro w ⟨-,hS⟩
      refine Gp ?_
      have hyr:ix (.mem H) (.slice ya yf.b.length yc) yf.b:=ix.rd EU
      refine Cc (QY (.mem H) _ yf.b hyr (by omega)) ?_;clear hS
      rintro r post hQ w hS
      unfold vd at hQ
      cases hr:kf yf.b with
      | none=>
       rw[hr]at hQ rV
       obtain⟨rfl,rfl⟩:=hQ
       simp only at rV
       rw[rV]at heq
       (try simp only[app]at hS);refine Gp ?_
       refine⟨λvs w=>vs=[.bool false]/\SL W (.pt fb [.int .i64 yf.id,.int .i64 (yf.safe:Int),.slice ya yf.b.length yc] 186::.ob (iB lp xp ⟨L,base,size,none⟩)::.ob (j3 ov zs)::.pt xp (kz fv s) 66::.ob (j3 fv ys)::.mem H::F) w,?_,?_⟩
       ·refine Gp ?_
        refine za (λh=>absurd h (by decide)) (λ_=>⟨rfl,aR hS⟩)
       ·clear hS
        rintro Jp w ⟨jR,hS⟩
        cases jR
        refine⟨λvs w=>vs=[.bool (decide (i+1≠ids.length))]/\SL W (.pt fb [.int .i64 yf.id,.int .i64 (yf.safe:Int),.slice ya yf.b.length yc] 186::.ob (iB lp xp ⟨L,base,size,none⟩)::.ob (j3 ov zs)::.pt xp (kz fv s) 66::.ob (j3 fv ys)::.mem H::F) w,?_,?_⟩
        ·refine zx hS (v:=ov) (t:=186) (sz:=3) (n:=zs.length) (cells:=(zs.map jQ).flatten) Xh ?_
         refine b9 (λh=>?_) (λh=>?_)
         ·rw[decide_eq_true (show i+1≠ids.length by omega)]
          refine zQ ?_
          refine zw ?_
          exact⟨rfl,aR hS⟩
         ·rw[decide_eq_false (show ¬i+1≠ids.length by omega)]
          refine Gp ?_
          refine za (λh=>absurd h (by decide)) (λ_=>⟨rfl,aR hS⟩)
        ·clear hS
         rintro Vo w ⟨jR,hS⟩
         cases jR
         refine za (λhb=>?_) (λhb=>?_)
         ·rw[decide_eq_false (show ¬i+1=ids.length from hb),if_pos rfl]at heq
          exact Eg (l:=[]) (F':=[]) heq (SL.b_ (kN hS Xp) Xi)
         ·have rQ:i+1=ids.length:=Classical.not_not.1 hb
          rw[decide_eq_true rQ,if_neg (by simp)]at heq
          refine Gp ?_
          refine za (λ_=>?_) (λh=>absurd (by decide) h)
          refine Gp ?_
          refine⟨⟨i+1,next,L,false,rfl,⟨by omega,?_,.inr ⟨rfl,rQ,by omega⟩,λ_ h=>(by cases h),hA.ok⟩,aR hS⟩,by dsimp only;omega⟩
          rw[heq,if_neg (by omega),Nat.add_sub_cancel,List.getElem?_eq_getElem Cu,hid]
      | some q=>
       obtain⟨first,l,n⟩:=q
       have vG:=IX hr
       obtain⟨r1,r2,r3,r4,r5⟩:=vG
       rw[hr]at hQ rV
       obtain⟨u,es,RZ,rfl,rfl⟩:=hQ
       simp only at rV
       try simp only[app]at hS
       have q_:l.length=es.length:=by rw[<- RZ,tG]
       obtain⟨ua,uc,rfl,_⟩:=g8.at hS (v:=u) .hd
       refine Gp ?_
       refine⟨λvs w=>vs=[.bool (decide (n=yf.b.length/\0<es.length))]/\SL W (.pt fb [.int .i64 yf.id,.int .i64 (yf.safe:Int),.slice ya yf.b.length yc] 186::.ob (g8 (.slice ua es.length uc) 62 1 es.length (jB es))::.ob (zi jN es)::.ob (iB lp xp ⟨L,base,size,none⟩)::.ob (j3 ov zs)::.pt xp (kz fv s) 66::.ob (j3 fv ys)::.mem H::F) w,?_,?_⟩
       ·refine Gp ?_
        refine za (λ_=>?_) (λh=>absurd rfl h)
        refine b9 (λh=>?_) (λh=>?_)
        ·refine Gp ?_
         refine⟨?_,aR hS⟩
         congr 2
         rw[Bool.eq_iff_iff,decide_eq_true_iff,decide_eq_true_iff];omega
        ·refine⟨?_,aR hS⟩
         rw[decide_eq_false (show ¬(n=yf.b.length/\0<es.length) by omega)]
       ·clear hS
        rintro Jp w ⟨jR,hS⟩
        cases jR
        refine⟨λvs w=>vs=[.bool (decide ((i+1≠ids.length/\¬(n=yf.b.length/\0<es.length))\/(0<i/\first≠next)))]/\SL W (.pt fb [.int .i64 yf.id,.int .i64 (yf.safe:Int),.slice ya yf.b.length yc] 186::.ob (g8 (.slice ua es.length uc) 62 1 es.length (jB es))::.ob (zi jN es)::.ob (iB lp xp ⟨L,base,size,none⟩)::.ob (j3 ov zs)::.pt xp (kz fv s) 66::.ob (j3 fv ys)::.mem H::F) w,?_,?_⟩
        ·have nL:∀b:Bool,(b=decide ((i+1≠ids.length/\¬(n=yf.b.length/\0<es.length))\/(0<i/\first≠next)))->[Value.bool b]=[.bool (decide ((i+1≠ids.length/\¬(n=yf.b.length/\0<es.length))\/(0<i/\first≠next)))]:=λb h=>by rw[h]
         refine zx hS (v:=ov) (t:=186) (sz:=3) (n:=zs.length) (cells:=(zs.map jQ).flatten) Xh ?_
         refine b9 (λh=>?_) (λh=>?_)
         ·refine zQ ?_
          by_cases hw:n=yf.b.length/\0<es.length
          ·rw[decide_eq_true hw]
           refine zt ?_
           refine Gp ?_
           refine za (λ_=>?_) (λh=>absurd rfl h)
           refine b9 (λh2=>?_) (λh2=>?_)
           ·refine Gp ?_
            refine⟨nL _ ?_,aR hS⟩
            rw[Bool.eq_iff_iff,decide_eq_true_iff,decide_eq_true_iff]
            constructor
            ·intro h;exact .inr ⟨by omega,h⟩
            ·rintro (⟨_,h⟩|⟨_,h⟩)
             ·exact absurd hw h
             ·exact h
           ·refine⟨nL _ ?_,aR hS⟩
            refine (decide_eq_false ?_).symm
            rintro (⟨_,h⟩|⟨h,_⟩)
            ·exact absurd hw h
            ·omega
          ·rw[decide_eq_false hw]
           refine zw ?_
           exact⟨nL _ (decide_eq_true (.inl ⟨by omega,hw⟩)).symm,aR hS⟩
         ·refine Gp ?_
          refine za (λ_=>?_) (λh=>absurd rfl h)
          refine b9 (λh2=>?_) (λh2=>?_)
          ·refine Gp ?_
           refine⟨nL _ ?_,aR hS⟩
           rw[Bool.eq_iff_iff,decide_eq_true_iff,decide_eq_true_iff]
           constructor
           ·intro h;exact .inr ⟨by omega,h⟩
           ·rintro (⟨h,_⟩|⟨_,h⟩)
            ·omega
            ·exact h
          ·refine⟨nL _ ?_,aR hS⟩
           refine (decide_eq_false ?_).symm
           rintro (⟨h,_⟩|⟨h,_⟩)<;>omega
        ·clear hS
         rintro Vo w ⟨jR,hS⟩
         cases jR
         have rW:0<i->next=c_ L+1:=λh=>hA.next h rfl
         refine za (λhb=>?_) (λhb=>?_)
         ·rw[rV,if_pos (c:=(decide (i+1=ids.length)=false/\(n≠yf.b.length\/l.length=0))\/(0<L.length/\first≠c_ L+1)\/1099511627776<first+l.length-1) (by
           rcases hb with ⟨h1,h2⟩|⟨h1,h2⟩
           ·exact .inl ⟨decide_eq_false h1,by rw[q_];omega⟩
           ·exact .inr (.inl ⟨by omega,by rw[<- rW h1];exact h2⟩)),if_pos rfl]at heq
          exact Eg (l:=[]) (F':=[]) heq (SL.b_ (kN hS Xp) Xi)
         ·refine Gp ?_
          refine za (λh=>absurd rfl h) (λ_=>?_)
          refine b9 (λhmx=>?_) (λhmx=>?_)
          ·rw[rV,if_pos (c:=(decide (i+1=ids.length)=false/\(n≠yf.b.length\/l.length=0))\/(0<L.length/\first≠c_ L+1)\/1099511627776<first+l.length-1) (.inr (.inr (by rw[q_];omega))),if_pos rfl]at heq
           exact Eg (l:=[]) (F':=[]) heq (SL.b_ (kN hS Xp) Xi)
          ·have AQ:¬((decide (i+1=ids.length)=false/\(n≠yf.b.length\/l.length=0))\/(0<L.length/\first≠c_ L+1)\/1099511627776<first+l.length-1):=by
            rintro (⟨h1,h2⟩|⟨h1,h2⟩|h)
            ·exact hb (.inl ⟨of_decide_eq_false h1,by rw[q_]at h2;omega⟩)
            ·exact hb (.inr ⟨by omega,by rw[rW (by omega)];exact h2⟩)
            ·rw[q_]at h;omega
           rw[rV,if_neg AQ,if_neg (by simp)]at heq
           rw[rV,if_neg AQ]at Ht
           simp only at heq Ht
           obtain⟨sv,xs,mZ,hS⟩:=iB.T3 (SL.b_ hS (t:=.ob (iB lp xp ⟨L,base,size,none⟩)::.pt fb [.int .i64 yf.id,.int .i64 (yf.safe:Int),.slice ya yf.b.length yc] 186::.ob (g8 (.slice ua es.length uc) 62 1 es.length (jB es))::.ob (zi jN es)::.ob (j3 ov zs)::.pt xp (kz fv s) 66::.ob (j3 fv ys)::.mem H::F) Xi)
           have pC:xs.length=L.length:=by
            have:=congrArg List.length mZ
            rwa [List.length_map]at this
           refine Gm λb w hS=>?_
           have eFn:=g8.one hS (v:=sv) (t:=259) (sz:=4) (n:=xs.length) (cells:=(xs.map jw).flatten) Xh
           refine Zd (t:=259) (sz:=4) (n:=xs.length) (cells:=(xs.map jw).flatten) (m:=1) (cs:=[.int .i64 yf.id,.int .i64 first,.int .i64 n,.slice ua es.length uc]) hS Xr (lX hS .hd rfl) rfl rfl (by simp[Value.oneCell']) (by omega) (by omega) ?_
           clear hS;intro kR w hS
           have mn:=g8.one hS (v:=kR) .hd
           refine Gn λw hS=>?_
           have hS:=(ia.iff (x:=⟨yf.id,first,n,es,ua,uc⟩)).2 (SL.b_ hS (t:=.ob (g8 (.slice ua es.length uc) 62 1 es.length (jB es))::.ob (zi jN es)::.ob (zi ia xs)::.pt lp (mN kR xp base size (-1)) 254::.ob (g8 kR 259 4 (xs.length+1) ((xs.map jw).flatten++[.int .i64 yf.id,.int .i64 first,.int .i64 n,.slice ua es.length uc]))::.ob (j3 ov zs)::.pt xp (kz fv s) 66::.ob (j3 fv ys)::.mem H::F) Xi)
           have hS:=zi.snoc (hS.b_ (t:=.ob (zi ia xs)::.ob (ia ⟨yf.id,first,n,es,ua,uc⟩)::.pt lp (mN kR xp base size (-1)) 254::.ob (g8 kR 259 4 (xs.length+1) ((xs.map jw).flatten++[.int .i64 yf.id,.int .i64 first,.int .i64 n,.slice ua es.length uc]))::.ob (j3 ov zs)::.pt xp (kz fv s) 66::.ob (j3 fv ys)::.mem H::F) Xi)
           have e1:xs.length+1=(xs++[(⟨yf.id,first,n,es,ua,uc⟩:f_)]).length:=by simp
           have e2:(xs.map jw).flatten++[.int .i64 yf.id,.int .i64 first,.int .i64 n,.slice ua es.length uc]=((xs++[(⟨yf.id,first,n,es,ua,uc⟩:f_)]).map jw).flatten:=by simp[jw,f_.lv]
           rw[e1,e2]at hS
           have pB:(xs++[(⟨yf.id,first,n,es,ua,uc⟩:f_)]).map f_.pl=L++[⟨yf.id,first,n,l⟩]:=by
            have:xs.map f_.pl=L:=mZ
            rw[List.map_append,this];simp[f_.pl,RZ]
           have hS:=iB.DT (L:=L++[⟨yf.id,first,n,l⟩]) (base:=base) (size:=size) (lp:=lp) (xp:=xp) (F:=.ob (j3 ov zs)::.pt xp (kz fv s) 66::.ob (j3 fv ys)::.mem H::F) hS pB Xi
           have te:c_ (L++[⟨yf.id,first,n,l⟩])+1=first+es.length:=by
            rw[Et];simp only[g6.next,q_];omega
           refine⟨⟨i+1,first+es.length,L++[⟨yf.id,first,n,l⟩],true,rfl,⟨by omega,?_,.inl ⟨rfl,by simp;omega⟩,λ_ _=>te.symm,Ht.1⟩,aR hS⟩,by dsimp only;omega⟩
           rw[heq,if_neg (by omega),Nat.add_sub_cancel,List.getElem?_eq_getElem Cu,hid]
   ·have nf:i=ids.length:=by omega
    have heq:=hA.eq
    rw[nf,List.drop_length]at heq
    simp only[m0]at heq
    rw[heq]at eo
    simp only at eo
    refine zx hS (v:=ov) (t:=186) (sz:=3) (n:=zs.length) (cells:=(zs.map jQ).flatten) Xh ?_
    refine b9 (λh2=>?_) (λh2=>?_)
    ·have CG:ids=[]:=List.eq_nil_of_length_eq_zero (by omega)
     have hb:lK L s ids wh=(s,0):=by rw[CG];rfl
     rw[hb,if_neg (by simp)]at eo
     rw[eo]
     have hS:=kN hS Xp
     exact⟨_,⟨lp,H,bw.le_refl H,rfl,rfl⟩,aR hS⟩
    ·have hj:ids.length-1<ids.length:=by omega
     have Cx:zs.length-1<zs.length:=by omega
     have hx:zs[zs.length-1]?=some zs[zs.length-1]:=List.getElem?_eq_getElem Cx
     have xK:ids.getLast?=some zs[zs.length-1].1.id:=by
      rw[List.getLast?_eq_getElem?,<- C0,List.getElem?_eq_getElem (by omega),xJ _ Cx]
     have tS:=R3 _ Cx
     have EU:=lB _ (C1 _ (List.getElem_mem Cx))
     refine zx hS (v:=ov) (t:=186) (sz:=3) (n:=zs.length) (cells:=(zs.map jQ).flatten) Xh ?_
     refine Gp ?_
     have e:((zs.length:Nat):Int)-1=((zs.length-1:Nat):Int):=by omega
     rw[e]
     refine yd hS (v:=ov) (t:=186) Xh nX hx Cx ?_
     generalize zs[zs.length-1]=y at *
     obtain⟨yf,yv⟩:=y
     simp only at *
     obtain⟨_,ya,yc,rfl,_,_⟩:=id EU
     refine zI hS ?_
     clear hS;intro fb w hS
     refine zB (vs:=[.int .i64 yf.id,.int .i64 (yf.safe:Int),.slice ya yf.b.length yc]) hS Xu rfl rfl (by simp[Value.oneCell']) ?_
     clear hS;intro w hS
     obtain⟨sv,xs,mZ,hS⟩:=iB.T3 (SL.b_ hS (t:=.ob (iB lp xp ⟨L,base,size,none⟩)::.pt fb [.int .i64 yf.id,.int .i64 (yf.safe:Int),.slice ya yf.b.length yc] 186::.ob (j3 ov zs)::.pt xp (kz fv s) 66::.ob (j3 fv ys)::.mem H::F) Xi)
     have mZ:xs.map f_.pl=L:=mZ
     have pC:xs.length=L.length:=by rw[<- mZ,List.length_map]
     refine Gp ?_
     refine zY hS (v:=sv) (t:=259) (sz:=4) (n:=xs.length) (cells:=(xs.map jw).flatten) Xh ?_
     refine zx hS (v:=ov) (t:=186) (sz:=3) (n:=zs.length) (cells:=(zs.map jQ).flatten) Xh ?_
     refine b9 (λh3=>?_) (λh3=>?_)
     ·have xY:wh=false:=by rcases hA.len with ⟨_,h⟩|⟨h,_⟩;omega;exact h
      have hb:lK L s ids wh=s.remove yf.id:=by
       unfold lK;rw[xK,xY];rfl
      rw[hb]at eo
      rw[eo]
      refine Gp ?_
      have hS:=kN hS Xp
      refine Cc (Zt H xp s B cR iP hR yf.id) ?_;clear hS
      rintro v post ⟨rfl,rfl⟩ w hS;(try simp only[app]at hS);refine b9 (λh4=>?_) (λh4=>?_)
      ·rw[if_pos h4]
       exact⟨_,⟨h4,rfl,H,bw.le_refl H,rfl⟩,aR hS⟩
      ·rw[if_neg h4]
       have hS:=iB.DT (L:=L) (base:=base) (size:=size) (lp:=lp) (xp:=xp) (F:=.ob (eI H xp (s.remove yf.id).1)::.mem H::F) hS mZ Xi
       exact⟨_,⟨lp,H,bw.le_refl H,rfl,rfl⟩,aR hS⟩
     ·have hwt:wh=true:=by rcases hA.len with ⟨h,_⟩|⟨_,_,h⟩;exact h;omega
      have Hs:rn s.R yf.id=yf.b.length:=by unfold rn;rw[tS]
      have hb:lK L s ids wh=if sJ L<(yf.b.length:Int) then s.cut yf.id (sJ L) else (s,0):=by
       unfold lK;rw[xK,hwt]
       simp only[Hs]
       rw[if_neg (by decide)]
      rw[hb]at eo
      have xN:xs.length-1<xs.length:=by omega
      have Hw:sJ L=((xs[xs.length-1]'xN).size:Nat):=by
       unfold sJ
       rw[<- mZ,List.getLast?_map,List.getLast?_eq_getElem?,List.getElem?_eq_getElem xN];rfl
      rw[Hw]at eo
      have ex:((xs.length:Nat):Int)-1=((xs.length-1:Nat):Int):=by omega
      refine Gn λw hS=>?_
      refine Cg (yg lp xp sv xs base size (-1) (by omega)) λw hS=>?_
      rw[ex]
      refine yp (i:=2) hS Xh xN (u:=.int .i64 ((xs[xs.length-1]'xN).size:Nat)) rfl ?_
      generalize hz:(xs[xs.length-1]'xN).size=z at *
      refine b9 (λh4=>?_) (λh4=>?_)
      ·rw[if_pos h4]at eo
       rw[eo]
       refine Gn λw hS=>?_
       refine Cg (yg lp xp sv xs base size (-1) (by omega)) λw hS=>?_
       rw[ex]
       refine yp (i:=2) hS Xh xN (u:=.int .i64 (z:Int)) (by show some (Value.int .i64 ((xs[xs.length-1]'xN).size:Nat))=_;rw[hz]) ?_
       have hS:=kN hS Xp
       refine Cc (YL H xp s B cR hB iP hR yf.id (z:Int)) ?_;clear hS
       rintro v post ⟨rfl,H',hH,rfl⟩ w hS;(try simp only[app]at hS);refine b9 (λh5=>?_) (λh5=>?_)
       ·rw[if_pos h5]
        exact⟨_,⟨h5,rfl,H',hH,rfl⟩,aR hS⟩
       ·rw[if_neg h5]
        have hS:=iB.DT (L:=L) (base:=base) (size:=size) (lp:=lp) (xp:=xp) (F:=.ob (eI H' xp (s.cut yf.id (z:Int)).1)::.mem H'::F) hS mZ Xi
        exact⟨_,⟨lp,H',hH,rfl,rfl⟩,aR hS⟩
      ·rw[if_neg h4,if_neg (by simp)]at eo
       rw[eo]
       have hS:=kN hS Xp
       have hS:=iB.DT (L:=L) (base:=base) (size:=size) (lp:=lp) (xp:=xp) (F:=.ob (eI H xp s)::.mem H::F) hS mZ Xi
       exact⟨_,⟨lp,H,bw.le_refl H,rfl,rfl⟩,aR hS⟩
section
variable {W w:World} {l F:List Chunk}
theorem iB.put{lp xp:Nat}(g:iq){sv:Value}{xs:List f_}(hS:SL W l w)(hx:xs.map f_.pl=g.bW)(p:kI [.pt lp (mN sv xp g.base g.size (nR g.iw)) 254,l6 sv xs,.ob (zi ia xs)] l F):SL W (.ob (iB lp xp g)::F) w:=iB.iff.2 ⟨sv,xs,hx,hS.pick p⟩
theorem iB.o5{lp xp:Nat}{L:List g6}{base size ti:Int}(tn:Option w8){sv:Value}{xs:List f_}(hS:SL W l w)(hx:xs.map f_.pl=L)(p:kI [.pt lp (mN sv xp base size ti) 254,l6 sv xs,.ob (zi ia xs)] l F)(ht:nR tn=ti:=by rfl):SL W (.ob (iB lp xp ⟨L,base,size,tn⟩)::F) w:=by subst ht;exact iB.iff.2 ⟨sv,xs,hx,hS.pick p⟩
theorem ia.put(x:f_)(hS:SL W l w)(p:kI [.ob (g8 x.lv 62 1 x.es.length (jB x.es)),.ob (zi jN x.es)] l F):SL W (.ob (ia x)::F) w:=ia.iff.2 (hS.pick p)
theorem eI.put{H:bw}{xp:Nat}(s:DS){fv:Value}{ys:List YF}(hS:SL W l w)(he:ys.map Prod.fst=s.R/\sV H ys)(p:kI [.pt xp (kz fv s) 66,.ob (j3 fv ys)] l F):SL W (.ob (eI H xp s)::F) w:=eI.iff.2 ⟨fv,ys,he,hS.pick p⟩
theorem zi.uo{α:Type}{A:α->zE}{xs:List α}{t:Nat}{x:α}(hS:SL W l w)(hx:xs[t]?=some x)(r:kG (.ob (zi A xs)) l F):SL W (.ob (A x)::.ob (zi A (xs.eraseIdx t))::F) w:=zi.take (hS.perm r.perm) hx
theorem zi.b8i{α:Type}{A:α->zE}{xs:List α}{t:Nat}(y:α)(hS:SL W l w)(ht:t<xs.length)(p:kI [.ob (A y),.ob (zi A (xs.eraseIdx t))] l F):SL W (.ob (zi A (xs.set t y))::F) w:=zi.put (hS.pick p) ht
theorem zi.UW{α:Type}{A:α->zE}{xs:List α}(x:α)(hS:SL W l w)(p:kI [.ob (zi A xs),.ob (A x)] l F):SL W (.ob (zi A (xs++[x]))::F) w:=zi.snoc (hS.pick p)
theorem eI.iK{H H':bw}{xp:Nat}{s:DS}(hh:H.le H')(hS:SL W l w)(r:kG (.ob (eI H xp s)) l F):SL W (.ob (eI H' xp s)::F) w:=eI.mono hh (hS.perm r.perm)
end
def VI(H:bw)(lp xp:Nat)(g:iq)(d:DS)(y:Except Int lY)(r:Value)(post:List Chunk):Prop:=match y with
 | .error e=>e≠0/\r= .tuple #[.slice none 0 0,.int .i64 0,.bool false,.int .i64 e]/\post=[.ob (iB lp xp g),.ob (eI H xp d),.mem H]
 | .ok x=>∃v,r= .tuple #[v,.int .i64 x.file,.bool x.fresh,.int .i64 0]/\post=[.ob (bI v 5 1 x.b.length (x.b.map fI)),.ob (iB lp xp g),.ob (eI H xp d),.mem H]
theorem QX(H:bw)(lp xp:Nat)(g:iq)(d:DS)(v:Value)(p:List UInt8)(hv:fW H 1 v p.length (p.map fI))(hp:p.length<=1048576){M:Nat}(hg:oM g M)(hM:M<=1000000000000):
  SP 250 [.pointer (some ⟨lp,0,none⟩),v] [.ob (iB lp xp g),.ob (eI H xp d),.mem H] (VI H lp xp g d (kd g d.off p)):=by
 intro W F w hS;apply dws;delta Mm aF bF a_ aW d_ ai bR;(try simp only[app]at hS)
 obtain⟨sv,xs,hx,hS⟩:=iB.iff.1 hS
 obtain⟨cR,hl,R5,AS⟩:=hg.ok.xs hx
 have RN:=hg.ok.b0
 have wC:=hg.ok.b1
 have tZ:=hg.ok.s1
 have hs0:=hg.ok.s0
 have Cs:=hg.hd
 obtain⟨fv,ys,he,hS⟩:=eI.iff.1 (Has.front (c:=.ob (eI H xp d)) hS Xr)
 refine Gp ?_
 have rR:¬1048576<p.length:=by omega
 refine yO (λho=>?_) (λho=>?_)
 ·have j7:kd g d.off p= .error 8:=by unfold kd;rw[if_neg rR,if_pos ho]
  rw[j7]
  have hS:=eI.put d hS he Xp
  have hS:=iB.put g hS hx Xp
  exact⟨_,⟨by decide,rfl,rfl⟩,aR hS⟩
 have hS:=eI.put d hS he Xp
 have HG:¬d.off=true:=by rw[ho];decide
 refine Cc (ZF (.mem H) v p (.rd hv) (by omega)) ?_;clear hS
 rintro r post hQ w hS
 unfold sj at hQ
 rw[if_neg rR]at hQ
 obtain⟨u,rfl,rfl⟩:=hQ
 (try simp only[app]at hS);refine Gp ?_
 have wJ:=o7 p
 refine Cg (yg lp xp sv xs g.base g.size (nR g.iw) (by omega)) λw hS=>?_
 have hS:=iB.put g hS hx Xp
 refine Cg (zT lp xp g hg.ok hM) λw hS=>?_
 refine za (λh1=>?_) (λh1=>?_)
 ·have j7:kd g d.off p= .error 7:=by unfold kd;rw[if_neg rR,if_neg HG,if_pos (by omega)]
  rw[j7]
  exact⟨_,⟨by decide,rfl,rfl⟩,aR hS⟩
 have hu1:=bI.one (Has.front (c:=.ob (bI u 5 1 (ic p).length ((ic p).map fI))) hS Xr)
 obtain⟨sv,xs,mY,hS⟩:=iB.iff.1 (Has.front (c:=.ob (iB lp xp g)) hS Xr)
 have Hv:xs.length=g.bW.length:=by rw[<- mY,List.length_map]
 have aWy:(xs.length:Int)-1=(‹List f_›.length:Int)-1:=rfl
 have Hr:∀ys:List f_,ys.map f_.pl=g.bW->ys.length=xs.length:=λys h=>by rw[Hv,<- h,List.length_map]
 rw[Hr _ hx]
 clear aWy
 have rX:kd g d.off p=match g.bW.getLast? with
   | none=>ny g g.base p
   | some s=>if s.l.length=0\/(s.size:Int)+(ic p).length<=g.size then .ok ⟨s.file,false,ic p⟩ else ny g (s.file+1) p:=by
  unfold kd;rw[if_neg rR,if_neg HG,if_neg (by omega)];rfl
 have He:xs=[]/\kd g d.off p=ny g g.base p\/∃hj:xs.length-1<xs.length,kd g d.off p=if xs[xs.length-1].es.length=0\/(xs[xs.length-1].size:Int)+(ic p).length<=g.size then .ok ⟨xs[xs.length-1].file,false,ic p⟩ else ny g (xs[xs.length-1].file+1) p:=by
  rcases Nat.eq_zero_or_pos xs.length with h0|h0
  ·left
   have:xs=[]:=List.eq_nil_of_length_eq_zero h0
   refine⟨this,?_⟩
   rw[rX,<- mY,this];rfl
  ·right
   have hj:xs.length-1<xs.length:=by omega
   refine⟨hj,?_⟩
   rw[rX,<- mY,List.getLast?_map,List.getLast?_eq_getElem?,List.getElem?_eq_getElem hj]
   simp[f_.pl,tG]
 have vH:∀hj:xs.length-1<xs.length,m_ (xs[xs.length-1]).pl M:=λhj=>by
  refine hg.ok.bW _ ?_
  rw[<- mY];exact List.mem_map.2 ⟨_,List.getElem_mem hj,rfl⟩
 refine⟨λus w=>∃q:Bool,us=[.bool q]/\(q=true↔∃hj:xs.length-1<xs.length,xs[xs.length-1].es.length=0\/(xs[xs.length-1].size:Int)+(ic p).length<=g.size)/\SL W (.pt lp (mN sv xp g.base g.size (nR g.iw)) 254::l6 sv xs::.ob (zi ia xs)::.ob (bI u 5 1 (ic p).length ((ic p).map fI))::.ob (eI H xp d)::.mem H::F) w,?_,?_⟩
 ·refine Gn λw hS=>?_
  refine za (λh2=>?_) (λh2=>?_)
  ·have hj:xs.length-1<xs.length:=by omega
   have k3:=(vH hj).sz
   have k3:xs[xs.length-1].size<=M:=k3
   rw[show (xs.length:Int)-1=((xs.length-1:Nat):Int) by omega]
   refine Gp ?_
   refine yp hS Xh hj (i:=3) rfl ?_
   unfold f_.lv
   refine b9 (λh3=>?_) (λh3=>?_)
   ·exact⟨true,rfl,⟨λ_=>⟨hj,.inl (by omega)⟩,λ_=>rfl⟩,aR hS⟩
   ·refine Gp ?_
    refine yp hS Xh hj (i:=2) rfl ?_
    refine zx hS (v:=u) Xh ?_
    refine Gp ?_
    refine⟨_,rfl,?_,aR hS⟩
    rw[decide_eq_true_iff]
    constructor
    ·intro h;exact⟨hj,.inr (by omega)⟩
    ·rintro ⟨_,h|h⟩
     ·omega
     ·omega
  ·exact⟨false,rfl,⟨λh=>by (cases h),λ⟨hj,_⟩=>by omega⟩,aR hS⟩
 clear hS
 rintro v62 w ⟨q,dR,hq,hS⟩
 cases dR
 refine yO (λhqt=>?_) (λSt=>?_)
 ·obtain⟨hj,hc⟩:=hq.1 hqt
  obtain⟨_,j7⟩:∃_:True,kd g d.off p= .ok ⟨xs[xs.length-1].file,false,ic p⟩:=by
   rcases He with ⟨h0,_⟩|⟨_,h⟩
   ·subst h0;simp at hj
   ·exact⟨trivial,by rw[h,if_pos hc]⟩
  rw[j7]
  rw[show (xs.length:Int)-1=((xs.length-1:Nat):Int) by omega]
  refine Gn λw hS=>?_
  refine yF hS (v:=sv) (t:=259) (sz:=4) (cells:=(xs.map jw).flatten) Xh hj λab ao hb=>?_
  have RQ:=hb 0 (.int .i64 xs[xs.length-1].file) (by decide) (sy vY xs _ 0 _ _ (List.getElem?_eq_getElem hj) rfl)
  refine zW ⟨_,_,rfl,RQ,?_⟩
  refine Gp ?_
  refine⟨_,_,rfl,RQ,⟨rfl,?_⟩⟩
  have hS:=iB.put g hS mY Xp
  exact⟨_,⟨u,rfl,rfl⟩,aR hS⟩
 ·have hnq:¬∃hj:xs.length-1<xs.length,xs[xs.length-1].es.length=0\/(xs[xs.length-1].size:Int)+(ic p).length<=g.size:=λh=>by rw[hq.2 h]at St;cases St
  refine Gp ?_
  refine⟨λus w=>∃f:Int,us=[.int .i64 f]/\kd g d.off p=ny g f p/\0<=f/\f<=1000000/\SL W (.pt lp (mN sv xp g.base g.size (nR g.iw)) 254::l6 sv xs::.ob (zi ia xs)::.ob (bI u 5 1 (ic p).length ((ic p).map fI))::.ob (eI H xp d)::.mem H::F) w,?_,?_⟩
  ·refine b9 (λh2=>?_) (λh2=>?_)
   ·have hj:xs.length-1<xs.length:=by omega
    have k1:0<=xs[xs.length-1].file:=(vH hj).f0
    have k2:xs[xs.length-1].file<=100000:=(vH hj).f1
    rw[show (xs.length:Int)-1=((xs.length-1:Nat):Int) by omega]
    refine Gp ?_
    refine yp hS Xh hj (i:=0) rfl ?_
    refine Gp ?_
    refine⟨_,rfl,?_,by omega,by omega,aR hS⟩
    rcases He with ⟨h0,_⟩|⟨_,h⟩
    ·subst h0;simp at hj
    ·rw[h,if_neg λhc=>hnq ⟨hj,hc⟩]
   ·refine⟨_,rfl,?_,by omega,by omega,aR hS⟩
    rcases He with ⟨_,h⟩|⟨hj,_⟩
    ·exact h
    ·omega
  ·clear hS
   rintro v11 w ⟨f,dR,j7,f0,f1,hS⟩
   cases dR
   rw[j7]
   unfold ny
   refine b9 (λh2=>?_) (λh2=>?_)
   ·rw[if_pos h2]
    have hS:=iB.put g hS mY Xp
    exact⟨_,⟨by decide,rfl,rfl⟩,aR hS⟩
   ·rw[if_neg h2]
    have hS:=iB.put g hS mY Xp
    refine Cg (zT lp xp g hg.ok hM) λw hS=>?_
    refine Cc (QU (c_ g.bW+1)) ?_;clear hS
    rintro r post hQ w hS
    unfold Aj at hQ
    rw[if_neg (by omega)]at hQ
    obtain⟨y,rfl,rfl⟩:=hQ
    (try simp only[app]at hS);refine Gp ?_
    have h2l:=o7 (j6 (c_ g.bW+1).toNat)
    have h3l:=vy (c_ g.bW+1).toNat
    refine zy hS .hd (rz hS (v:=u) Xh) (by simp) rfl (nE _) (by omega) (by omega) λz w hS=>?_
    refine⟨_,⟨z,rfl,rfl⟩,?_⟩
    rw[<- List.map_append,<- List.length_append]at hS
    exact aR hS
abbrev JR(lp xp:Nat)(H:bw)(u:Value)(y:iq × DS)(v:Value)(post:List Chunk):Prop:=v=u/\∃H',H.le H'/\post=[.ob (iB lp xp y.1),.ob (eI H' xp y.2),.mem H']
theorem qL(H:bw)(lp xp:Nat)(g:iq)(d:DS){M N:Nat}(hg:oM g M)(hM:M<=1000000000000)(cR:d.Ok N)(hN:N<=140737480000000)(iP:d.ops<=90000):
  SP 251 [.pointer (some ⟨lp,0,none⟩)] [.ob (iB lp xp g),.ob (eI H xp d),.mem H] (JR lp xp H (.int .i64 (ik g d).2) (ik g d).1):=by
 intro W F w hS;apply dwt;delta Mn aF bF a_ fR ai;(try simp only[app]at hS)
 have hR:=cR.Bm
 obtain⟨sv,xs,hx,hS⟩:=iB.iff.1 hS
 obtain⟨rZ,hl,_,_⟩:=hg.ok.xs hx
 refine Gp ?_
 cases ht:g.iw with
 | none=>
  have hm:ik g d=((g,d),0):=by unfold ik;rw[ht]
  rw[hm]
  refine za (λ_=>?_) (λh=>absurd (show nR none<0 by decide) h)
  have hS:=iB.put g hS hx Xp
  exact⟨_,⟨rfl,H,bw.le_refl H,rfl⟩,aR hS⟩
 | some x=>
  obtain⟨f0,f1,hold,te⟩:=hg.iw x ht
  have hm:ik g d=(({g with iw:=if (if x.fresh=true then d.remove x.file else d.cut x.file x.oS).2=0 then none else some x},(if x.fresh=true then d.remove x.file else d.cut x.file x.oS).1),(if x.fresh=true then d.remove x.file else d.cut x.file x.oS).2):=by unfold ik;rw[ht]
  have ER:nR (some x)=x.file:=rfl
  rw[ht]at hS
  rw[ER]at hS ⊢
  refine za (λh=>by omega) (λ_=>?_)
  refine Cg (yg lp xp sv xs g.base g.size x.file (by omega)) λw hS=>?_
  have rU:∀hj:xs.length-1<xs.length,g.bW.getLast?=some xs[xs.length-1].pl:=λhj=>by
   rw[<- hx,List.getLast?_map,List.getLast?_eq_getElem?,List.getElem?_eq_getElem hj];rfl
  generalize hz:(if x.fresh=true then d.remove x.file else d.cut x.file x.oS)=z at hm
  have xI:∀{w:World},x.fresh=true->SL W (.ob (eI H xp d)::.mem H::.pt lp (mN sv xp g.base g.size x.file) 254::l6 sv xs::.ob (zi ia xs)::F) w->aw 174 [.pointer (some ⟨xp,0,none⟩),.int .i64 x.file] w λv w'=>[v]=[.int .i64 z.2]/\∃H',H.le H'/\SL W (.pt lp (mN sv xp g.base g.size x.file) 254::l6 sv xs::.ob (zi ia xs)::.ob (eI H' xp z.1)::.mem H'::F) w':=λhf hS=>by
   refine Cc (Zt H xp d N cR (by omega) (by omega) x.file) ?_;clear hS
   rintro v post ⟨rfl,rfl⟩ w hS
   rw[if_pos hf]at hz
   subst hz
   try simp only[app]at hS
   exact⟨rfl,H,bw.le_refl H,aR hS⟩
  refine⟨λus w=>us=[.int .i64 z.2]/\∃H',H.le H'/\SL W (.pt lp (mN sv xp g.base g.size x.file) 254::l6 sv xs::.ob (zi ia xs)::.ob (eI H' xp z.1)::.mem H'::F) w,?_,?_⟩
  ·refine Gn λw hS=>?_
   refine za (λh0=>?_) (λh0=>?_)
   ·have hj:xs.length-1<xs.length:=by omega
    have ta:=rU hj
    rw[show (xs.length:Int)-1=((xs.length-1:Nat):Int) by omega]
    refine Gp ?_
    refine yp hS Xh hj (i:=0) rfl ?_
    refine b9 (λh1=>?_) (λh1=>?_)
    ·have hf:x.fresh=false:=by
      cases hb:x.fresh with
      | false=>rfl
      | true=>exact absurd h1 (te hb _ ta)
     obtain⟨s,h2,h3,h4⟩:=hold hf
     rw[ta]at h2
     cases h2
     refine Gn λw hS=>?_
     refine yp hS Xh hj (i:=2) rfl ?_
     refine Cc (YL H xp d N cR (by omega) (by omega) (by omega) x.file xs[xs.length-1].size) ?_;clear hS
     rintro v post ⟨rfl,H',hh,rfl⟩ w hS
     try simp only[app]at hS
     rw[if_neg (by rw[hf];decide),h4]at hz
     have hz:d.cut x.file (xs[xs.length-1].size:Nat)=z:=hz
     rw[hz]at hS ⊢
     exact⟨rfl,H',hh,aR hS⟩
    ·have hf:x.fresh=true:=by
      cases hb:x.fresh with
      | true=>rfl
      | false=>
       obtain⟨s,h2,h3,h4⟩:=hold hb
       rw[ta]at h2
       cases h2
       exact absurd h3 h1
     refine Gn λw hS=>?_
     exact xI hf (aR hS)
   ·have hf:x.fresh=true:=by
     cases hb:x.fresh with
     | true=>rfl
     | false=>
      obtain⟨s,h2,_⟩:=hold hb
      have:xs=[]:=List.eq_nil_of_length_eq_zero (by omega)
      rw[<- hx,this]at h2
      cases h2
    refine Gn λw hS=>?_
    exact xI hf (aR hS)
  ·clear hS
   rintro v3 w ⟨dR,H',hh,hS⟩
   cases dR
   rw[hm]
   refine b9 (λhe=>?_) (λhe=>?_)
   ·rw[if_pos he]
    refine Gn λw hS=>?_
    have hS:=iB.o5 none hS hx Xp
    exact⟨_,⟨rfl,H',hh,rfl⟩,aR hS⟩
   ·rw[if_neg he]
    have hS:=iB.o5 (some x) hS hx Xp
    exact⟨_,⟨rfl,H',hh,rfl⟩,aR hS⟩
def rH(x:lY)(y:(iq × DS) × Int):(iq × DS) × Int:=if y.2=0 then ((y.1.1,(y.1.2.append x.file x.b).1),(y.1.2.append x.file x.b).2) else y
def ux(x:lY)(y:(iq × DS) × Int):(iq × DS) × Int:=if y.2=0 then ((y.1.1,(y.1.2.sync x.file).1),(y.1.2.sync x.file).2) else y
theorem O1{g:iq}{d:DS}{p:List UInt8}{x:lY}(h:kd g d.off p= .ok x):kn g d p=(let y:=ux x (rH x (ik g d));if y.2=0 then (({y.1.1 with bW:=l5 g.bW x p},y.1.2),(c_ (l5 g.bW x p),0)) else (y.1,(0,y.2))):=by
 have hs:=(wP g d).1
 by_cases hm:(ik g d).2=0
 ·have e1:rH x (ik g d)=(((ik g d).1.1,((ik g d).1.2.append x.file x.b).1),((ik g d).1.2.append x.file x.b).2):=if_pos hm
  by_cases ha:((ik g d).1.2.append x.file x.b).2=0
  ·have e2:ux x (rH x (ik g d))=(((ik g d).1.1,(((ik g d).1.2.append x.file x.b).1.sync x.file).1),(((ik g d).1.2.append x.file x.b).1.sync x.file).2):=by rw[e1];exact if_pos ha
   simp only[e2]
   by_cases hk:(((ik g d).1.2.append x.file x.b).1.sync x.file).2=0
   ·rw[if_pos hk,OY h hm ha hk]
   ·rw[if_neg hk,O0 h hm ha hk]
  ·have e2:ux x (rH x (ik g d))=(((ik g d).1.1,((ik g d).1.2.append x.file x.b).1),((ik g d).1.2.append x.file x.b).2):=by rw[e1];exact if_neg ha
   simp only[e2]
   rw[if_neg ha,OX h hm ha]
 ·have e1:rH x (ik g d)=ik g d:=if_neg hm
  have e2:ux x (rH x (ik g d))=ik g d:=by rw[e1];exact if_neg hm
  simp only[e2]
  rw[if_neg hm,OZ h hm]
theorem Yx(H:bw)(lp xp:Nat)(g:iq)(d:DS)(v:Value)(p:List UInt8)(hv:fW H 1 v p.length (p.map fI))(hp:p.length<=140737488355328){M N:Nat}(hg:oM g M)(hM:M<=100000000000)(cR:d.Ok N)(hN:N<=140737480000000)(iP:d.ops<=90000):
  SP 184 [.pointer (some ⟨lp,0,none⟩),v] [.ob (iB lp xp g),.ob (eI H xp d),.mem H] (JR lp xp H (.tuple #[.int .i64 (kn g d p).2.1,.int .i64 (kn g d p).2.2]) (kn g d p).1):=by
 intro W F w hS;apply cW0;delta Lg aF bF a_ fR aW d_ ai bR;(try simp only[app]at hS)
 refine zn hv ?_
 refine b9 (λrR=>?_) (λrR=>?_)
 ·have j7:kd g d.off p= .error 1:=by unfold kd;rw[if_pos (by omega)]
  rw[DK j7]
  exact⟨_,⟨rfl,H,bw.le_refl H,rfl⟩,aR hS⟩
 refine Cc (QX H lp xp g d v p hv (by omega) hg (by omega)) ?_;clear hS
 rintro r post hQ w hS
 cases j7:kd g d.off p with
 | error e=>
  rw[j7]at hQ
  obtain⟨hz,rfl,rfl⟩:=hQ
  rw[DK j7]
  (try simp only[app]at hS);refine Gp ?_
  refine⟨λvs w=>vs=[.int .i64 e]/\SL W (.ob (iB lp xp g)::.ob (eI H xp d)::.mem H::F) w,?_,?_⟩
  ·refine Gp ?_
   exact za (λh=>absurd h hz) (λ_=>⟨rfl,aR hS⟩)
  clear hS
  rintro v7 w ⟨jR,hS⟩
  cases jR
  refine⟨λvs w=>vs=[.int .i64 e]/\SL W (.ob (iB lp xp g)::.ob (eI H xp d)::.mem H::F) w,?_,?_⟩
  ·refine Gp ?_
   exact za (λh=>absurd h hz) (λ_=>⟨rfl,hS⟩)
  clear hS
  rintro v7 w ⟨jR,hS⟩
  cases jR
  refine⟨λvs w=>vs=[.int .i64 e]/\SL W (.ob (iB lp xp g)::.ob (eI H xp d)::.mem H::F) w,?_,?_⟩
  ·refine Gp ?_
   exact za (λh=>absurd h hz) (λ_=>⟨rfl,hS⟩)
  clear hS
  rintro v7 w ⟨jR,hS⟩
  cases jR
  refine Gp ?_
  refine za (λ_=>?_) (λh=>absurd hz h)
  exact⟨_,⟨rfl,H,bw.le_refl H,rfl⟩,aR hS⟩
 | ok x=>
  rw[j7]at hQ
  obtain⟨bv,rfl,rfl⟩:=hQ
  have hw:=IQ hg.ok j7
  have xR:=Iy (g:=g) cR
  have AX:=Ix (d:=d) hg.ok
  have xS:=wP g d
  have tV:=T6 g d
  have vx:=hw.bl
  have hpp:=hw.pl
  rw[O1 j7]
  (try simp only[app]at hS);refine Gp ?_
  obtain⟨H1,fF,hb,hS⟩:=zu (H:=H) (v:=bv) (n:=x.b.length) (sz:=1) (t:=5) (cells:=x.b.map fI) hS Xp
  have hS:=eI.iK fF hS Xr
  have n3:=hv.mono fF
  refine⟨λus w=>us=[.int .i64 (ik g d).2]/\∃H',H1.le H'/\SL W (.ob (iB lp xp (ik g d).1.1)::.ob (eI H' xp (ik g d).1.2)::.mem H'::F) w,?_,?_⟩
  ·refine Gp ?_
   refine za (λ_=>?_) (λh=>absurd rfl h)
   refine Cc (qL H1 lp xp g d hg (by omega) cR hN iP) ?_;clear hS
   rintro v post ⟨rfl,H',hh,rfl⟩ w hS
   try simp only[app]at hS
   exact⟨rfl,H',hh,aR hS⟩
  clear hS
  rintro v9 w ⟨dR,H2,f',hS⟩
  cases dR
  have pM:=hb.mono f'
  have ni:=n3.mono f'
  have iS:=bw.le_trans fF f'
  clear f' hb n3 fF
  generalize ik g d=m at *
  have hA:(rH x m).1.1=m.1.1/\(rH x m).1.2.Ok (N+x.b.length)/\(rH x m).1.2.ops<=d.ops+2:=by
   unfold rH
   split
   ·exact⟨rfl,xR.append _ _,by have:=T5 m.1.2 x.file x.b;simp only;omega⟩
   ·exact⟨rfl,xR.mono (by omega),by omega⟩
  have hmR:=xR.Bm
  refine⟨λus w=>us=[.int .i64 (rH x m).2]/\∃H',H2.le H'/\SL W (.ob (iB lp xp m.1.1)::.ob (eI H' xp (rH x m).1.2)::.mem H'::F) w,?_,?_⟩
  ·unfold rH
   refine b9 (λh0=>?_) (λh0=>?_)
   ·rw[if_pos h0]
    obtain⟨sv,xs,hx,hS⟩:=iB.iff.1 (Has.front (c:=.ob (iB lp xp m.1.1)) hS Xr)
    refine Gp ?_
    refine Cc (Y7 H2 xp m.1.2 N xR (by omega) (by omega) x.file bv x.b pM (by omega)) ?_;clear hS
    rintro v post ⟨rfl,H',hh,rfl⟩ w hS
    try simp only[app]at hS
    have hS:=iB.put m.1.1 hS hx Xp
    exact⟨rfl,H',hh,aR hS⟩
   ·rw[if_neg h0]
    exact⟨rfl,H2,bw.le_refl H2,aR hS⟩
  clear hS
  rintro v9 w ⟨dR,H3,jA,hS⟩
  cases dR
  have hb3:=pM.mono jA
  have HY:=ni.mono jA
  have mM:=bw.le_trans iS jA
  clear jA pM ni iS
  obtain⟨xC,pw,hA3⟩:=hA
  generalize rH x m=a at *
  have hB:(ux x a).1.1=m.1.1:=by
   unfold ux
   split
   ·exact xC
   ·exact xC
  have haR:=pw.Bm
  refine⟨λus w=>us=[.int .i64 (ux x a).2]/\SL W (.ob (iB lp xp m.1.1)::.ob (eI H3 xp (ux x a).1.2)::.mem H3::F) w,?_,?_⟩
  ·unfold ux
   refine b9 (λh0=>?_) (λh0=>?_)
   ·rw[if_pos h0]
    obtain⟨sv,xs,hx,hS⟩:=iB.iff.1 (Has.front (c:=.ob (iB lp xp m.1.1)) hS Xr)
    refine Gp ?_
    refine Cc (Q1 H3 xp a.1.2 _ pw (by omega) (by omega) x.file) ?_;clear hS
    rintro v post ⟨rfl,rfl⟩ w hS
    try simp only[app]at hS
    have hS:=iB.put m.1.1 hS hx Xp
    exact⟨rfl,aR hS⟩
   ·rw[if_neg h0]
    exact⟨rfl,aR hS⟩
  clear hS
  rintro v9 w ⟨dR,hS⟩
  cases dR
  simp only
  generalize ux x a=y at *
  obtain⟨⟨y1,d3⟩,e⟩:=y
  simp only at *
  subst hB
  refine b9 (λh0=>?_) (λh0=>?_)
  ·rw[if_neg h0]
   exact⟨_,⟨rfl,H3,mM,rfl⟩,aR hS⟩
  have h0:e=0:=Classical.not_not.1 h0
  subst h0
  rw[if_pos rfl]
  obtain⟨sv,xs,hx,hS⟩:=iB.iff.1 (Has.front (c:=.ob (iB lp xp m.1.1)) hS Xr)
  obtain⟨rZ,pC,_,_⟩:=AX.xs hx
  have ra:c_ (xs.map f_.pl)=c_ g.bW:=by rw[hx,xS.1]
  have hgd:=hw.hd
  have wG:=uP hg.ok.bW
  have HC:=IB hg.ok hw
  refine⟨λus w=>us=[]/\∃kR gR,gR.map f_.pl=tm g.bW x/\gR.length<=xs.length+1/\SL W (.pt lp (mN kR xp m.1.1.base m.1.1.size (nR m.1.1.iw)) 254::l6 kR gR::.ob (zi ia gR)::.ob (eI H3 xp d3)::.mem H3::F) w,?_,?_⟩
  ·unfold tm
   refine yO (λhf=>?_) (λhf=>?_)
   ·rw[if_pos hf]
    refine Gn λw hS=>?_
    refine Cg (y7 lp xp sv xs m.1.1.base m.1.1.size (nR m.1.1.iw) rZ (by omega) (by omega)) λw hS=>?_;refine Gm λb w hS=>?_
    rw[ra]at hS
    refine Zd (m:=1) (cs:=[.int .i64 x.file,.int .i64 (c_ g.bW+1),.int .i64 0,.slice none 0 0]) hS Xr (lX hS .hd rfl) rfl rfl (by simp[Value.oneCell']) (by omega) (by omega) λkR w hS=>?_
    have mn:=g8.one hS (v:=kR) .hd
    refine Gn λw hS=>?_
    have hS:=g8.sK (a:=none) (t:=62) (sz:=1) hS
    have hS:=zi.nil (A:=jN) hS
    have hS:=(ia.iff (x:=⟨x.file,c_ g.bW+1,0,[],none,0⟩)).2 (hS.perm (.swap _ _ _))
    have hS:=zi.UW (A:=ia) (xs:=xs) ⟨x.file,c_ g.bW+1,0,[],none,0⟩ hS Xp
    have e1:xs.length+1=(xs++[(⟨x.file,c_ g.bW+1,0,[],none,0⟩:f_)]).length:=by simp
    have e2:(xs.map jw).flatten++[.int .i64 x.file,.int .i64 (c_ g.bW+1),.int .i64 0,.slice none 0 0]=((xs++[(⟨x.file,c_ g.bW+1,0,[],none,0⟩:f_)]).map jw).flatten:=by simp[jw,f_.lv]
    rw[e1,e2]at hS
    refine⟨kR,xs++[⟨x.file,c_ g.bW+1,0,[],none,0⟩],?_,by simp,aR hS⟩
    rw[List.map_append,hx,xS.1];rfl
   ·rw[if_neg (by rw[hf];decide)]
    exact⟨rfl,sv,xs,by rw[hx,xS.1],by omega,aR hS⟩
  clear hS rZ ra
  rintro w ⟨-,kR,gR,mY,uS,hS⟩
  obtain⟨A,s,hA⟩:=Fk hw
  rw[Bh _ _ _ hA]
  have hle:0<gR.length:=by
   have:=congrArg List.length mY
   rw[hA]at this;simp at this;omega
  have hj:gR.length-1<gR.length:=by omega
  have t_:gR=gR.take (gR.length-1)++[gR[gR.length-1]]:=by
   conv=>lhs;rw[<- List.take_append_drop (gR.length-1) gR]
   rw[List.drop_eq_getElem_cons hj,List.drop_eq_nil_of_le (by omega)]
  have AO:A=(gR.take (gR.length-1)).map f_.pl/\s=(gR[gR.length-1]).pl:=by
   rw[t_,List.map_append]at mY
   rw[hA]at mY
   have:=List.append_inj' mY rfl
   exact⟨this.1.symm,by simpa using this.2.symm⟩
  obtain⟨aI0,tZ⟩:=AO
  subst aI0 tZ
  have CS:=HC (gR[gR.length-1]).pl (by rw[hA];simp)
  have z1:=CS.sz
  have z2:=CS.ln
  refine Cg (yg lp xp kR gR m.1.1.base m.1.1.size (nR m.1.1.iw) (by omega)) λw hS=>?_
  have hS:=zi.uo (A:=ia) (xs:=gR) hS (List.getElem?_eq_getElem hj) Xr
  have hS:=ia.iff.1 hS
  obtain⟨rb,ro,rc,AA,BB,rfl,AN,hS,lR⟩:=j1.at (Has.front (c:=l6 kR gR) hS Xr) hj
  generalize CY:gR[gR.length-1]=x0 at *
  have z1:x0.size<=M:=z1
  have z2:x0.es.length<=M:=by simpa [f_.pl,tG] using z2
  rw[show ((gR.length:Nat):Int)-1=((gR.length-1:Nat):Int) by omega]
  refine zH hj ?_
  rw[<- AN]
  refine Gp ?_
  refine ye hS Xh (sN (i:=2) (u:=.int .i64 x0.size) rfl) ?_
  refine zn hb3 ?_
  refine Gp ?_
  refine zH hj ?_
  rw[<- AN]
  refine Gp ?_
  refine Zn hS Xu (sN (i:=2) (u:=.int .i64 x0.size) rfl) rfl λw hS=>?_
  rw[Fp (by rw[vY];decide)]at hS
  have e5:(jw x0).set 2 (.int .i64 ((x0.size+x.b.length:Nat):Int))=[.int .i64 x0.file,.int .i64 x0.first,.int .i64 ((x0.size+x.b.length:Nat):Int),x0.lv]:=rfl
  rw[e5]at hS
  refine Gn λw hS=>?_
  refine zH hj ?_
  rw[<- AN]
  refine Gp ?_
  refine ye hS Xh (sN (i:=3) (u:=x0.lv) rfl) ?_
  refine Gm λb w hS=>?_
  refine ye hS Xh (sN (i:=3) (u:=x0.lv) rfl) ⟨rfl,?_⟩
  have hS:=bI.full (n:=0) (sz:=1) (t:=5) (cells:=[]) rfl hS
  refine zy (n:=0) (m:=p.length) hS .hd (o_ hS Xh HY) (by simp) rfl (nE _) (by omega) (by omega) λu w hS=>?_
  rw[Nat.zero_add,List.nil_append]at hS
  have hu:=hS.oF .hd
  obtain⟨ua,uc,eu,_⟩:=bI.at hS .hd
  subst eu
  refine Gp ?_
  refine ye hS Xh (sN (i:=3) (u:=x0.lv) rfl) ⟨rfl,?_⟩
  refine Gm λb w hS=>?_
  refine ye hS Xh (sN (i:=3) (u:=x0.lv) rfl) ⟨rfl,?_⟩
  refine Zd (t:=62) (sz:=1) (n:=x0.es.length) (cells:=jB x0.es) (m:=1) (cs:=[.slice ua p.length uc]) hS Xr (lX hS .hd rfl) rfl rfl (by simp[Value.oneCell']) (by omega) (by omega) λv' w hS=>?_
  have mn:=g8.one hS (v:=v') .hd
  obtain⟨a',c',ev,_⟩:=g8.at hS (v:=v') .hd
  subst ev
  refine Gp ?_
  refine zH hj ?_
  rw[<- AN]
  refine Gp ?_
  refine Zn hS Xu (sN (i:=3) (u:=x0.lv) rfl) mn λw hS=>?_
  rw[Fp (by show 3<4;decide)]at hS
  have e6:([.int .i64 x0.file,.int .i64 x0.first,.int .i64 ((x0.size+x.b.length:Nat):Int),x0.lv]:List Value).set 3 (.slice a' (x0.es.length+1) c')=jw ⟨x0.file,x0.first,x0.size+x.b.length,x0.es++[(.slice ua p.length uc,p)],a',c'⟩:=by
   simp[jw,f_.lv]
  rw[e6]at hS
  generalize hy:(⟨x0.file,x0.first,x0.size+x.b.length,x0.es++[(.slice ua p.length uc,p)],a',c'⟩:f_)=y at *
  have mZ:(gR.set (gR.length-1) y).map f_.pl=(gR.take (gR.length-1)).map f_.pl++[tD x0.pl x.b.length p]:=by
   rw[List.set_eq_take_append_cons_drop,if_pos hj,List.drop_eq_nil_of_le (by omega),List.map_append]
   congr 1
   simp[<- hy,f_.pl,tD,nH]
  have CL:=(IS hg.ok hw).1
  rw[Bh _ _ _ hA,<- mZ]at CL
  have hS:=lR y w _ (Has.front (c:=.pt rb (AA++(jw y++BB)) 259) hS Xr)
  have hS:SL W (.ob (jN (.slice ua p.length uc,p))::_) _:=Has.front (c:=.ob (bI (.slice ua p.length uc) 5 1 p.length (p.map fI))) hS Xr
  have hS:=zi.UW (A:=jN) (xs:=x0.es) (.slice ua p.length uc,p) hS Xp
  have e7:x0.es.length+1=y.es.length:=by simp[<- hy]
  have e8:jB x0.es++[.slice ua p.length uc]=jB y.es:=by simp[<- hy,jB]
  have e9:x0.es++[(.slice ua p.length uc,p)]=y.es:=by simp[<- hy]
  have GD:(.slice a' (x0.es.length+1) c':Value)=y.lv:=by simp[<- hy,f_.lv]
  have hS:=Has.front (c:=.ob (g8 (.slice a' (x0.es.length+1) c') 62 1 (x0.es.length+1) (jB x0.es++[.slice ua p.length uc]))) hS Xr
  rw[GD,e7,e8,e9]at hS
  have hS:=ia.put y hS Xp
  have hS:=zi.b8i (A:=ia) (xs:=gR) (t:=gR.length-1) y hS hj Xp
  refine Cg (y7 lp xp (.slice (some ⟨rb,ro,none⟩) gR.length rc) (gR.set (gR.length-1) y) m.1.1.base m.1.1.size (nR m.1.1.iw) CL (by rw[List.length_set];omega) (by omega)) λw hS=>?_
  rw[mZ]
  have hS:=iB.o5 m.1.1.iw (L:=(gR.take (gR.length-1)).map f_.pl++[tD x0.pl x.b.length p]) hS mZ Xp
  exact⟨_,⟨rfl,H3,mM,rfl⟩,aR hS⟩
theorem Ul:∀{L:List g6} {n:Int} {b:List UInt8} {N:Nat},(∀s∈L,m_ s N)->lE L n=some b->b.length<=1048576
 | [],_,_,_,_,h=>by cases h
 | s::r,n,b,N,hs,h=>by
  unfold lE at h
  split at h
  ·exact (hs s (.head _)).bl b (List.mem_of_getElem? h)
  ·exact Ul (λx hx=>hs x (.tail _ hx)) h
def Dy(H:bw)(xp:Nat)(s:DS)(f:Int)(v:Value)(post:List Chunk):Prop:=match iz PF.id s.R f with
 | none=>v= .tuple #[.slice none 0 0,.bool false]/\post=[.ob (eI H xp s),.mem H]
 | some x=>∃u,v= .tuple #[u,.bool true]/\post=[.ob (bI u 5 1 x.b.length (x.b.map fI)),.ob (eI H xp s),.mem H]
theorem qN(H:bw)(xp:Nat)(s:DS)(N:Nat)(cR:s.Ok N)(hN:N<=140737488355328)(f:Int):
  SP 177 [eF xp,.int .i64 f] [.ob (eI H xp s),.mem H] (Dy H xp s f):=by
 intro W F w hS;apply cWs;delta K9 bF a_ dW bR;(try simp only[app]at hS)
 have hR:=cR.Bm
 obtain⟨fv,ys,⟨he,lB⟩,hS⟩:=eI.iff.1 hS
 have sH:ys.length=s.R.length:=by rw[<- he,List.length_map]
 have uQ:iz PF.id s.R f=(iz kP ys f).map Prod.fst:=by rw[<- he];exact B4 ud ys f
 refine Cg (Zb xp s fv ys (by rw[he];exact cR.sorted) (by omega) f) λw hS=>?_
 cases hk:kq kP ys f with
 | false=>
  have hg:iz PF.id s.R f=none:=by rw[uQ];unfold iz;rw[if_neg (by rw[hk];decide)];rfl
  refine zw ?_
  have hS:=eI.put s hS ⟨he,lB⟩ Xp
  exact⟨[.ob (eI H xp s),.mem H],by unfold Dy;rw[hg];exact⟨rfl,rfl⟩,aR hS⟩
 | true=>
  obtain⟨h1,h2⟩:=th hk
  have hx:ys[iW kP ys f]?=some ys[iW kP ys f]:=List.getElem?_eq_getElem h1
  have hg:iz PF.id s.R f=some ys[iW kP ys f].1:=by rw[uQ];unfold iz;rw[if_pos hk,hx];rfl
  have hC:=lB _ (List.getElem_mem h1)
  have hlen:=cR.len _ (uJ hg).1
  generalize iW kP ys f=i at *
  generalize ys[i]=y at *
  refine zt ?_
  refine zD hS (cells:=[]) rfl ?_
  clear hS;intro b1 w hS
  refine Gp ?_
  refine zJ (i:=2) hS (v:=fv) (t:=186) Xh nX hx h1 (u:=y.2) rfl ?_
  have hS:=eI.put s hS ⟨he,lB⟩ (H:=H) (xp:=xp) Xp
  have hS:=bI.full (n:=0) (sz:=1) (b:=b1) (t:=5) (cells:=[]) rfl (SL.b_ hS (t:=.pt b1 [] 5::.ob (eI H xp s)::.mem H::F) Xi)
  refine zy (n:=0) (m:=y.1.b.length) hS Xr (o_ hS Xh hC) (by simp) rfl (nE _) (by omega) (by omega) ?_
  clear hS;intro u w hS
  rw[List.nil_append,Nat.zero_add]at hS
  exact⟨[.ob (bI u 5 1 y.1.b.length (y.1.b.map fI)),.ob (eI H xp s),.mem H],by unfold Dy;rw[hg];exact⟨u,rfl,rfl⟩,aR hS⟩
abbrev r8(xp lp rp:Nat)(kx image:Int):List Value:=[eF xp,eF lp,eF rp,.int .i64 kx,.int .i64 image]
def ij(kp xp lp rp:Nat)(H:bw)(k:g_):zE:=zU True [.pt kp (r8 xp lp rp k.kx k.image) 171,.ob (iO H rp k.ts),.ob (iB lp xp k.g)]
section
variable {W w:World} {l F:List Chunk} {kp xp lp rp:Nat} {H H':bw}
theorem ij.iff{k:g_}:SL W (.ob (ij kp xp lp rp H k)::l) w↔SL W (.pt kp (r8 xp lp rp k.kx k.image) 171::.ob (iO H rp k.ts)::.ob (iB lp xp k.g)::l) w:=by
 unfold ij
 simp only[SL.fact,true_and,List.cons_append,List.nil_append]
theorem ij.put(k:g_)(hS:SL W l w)(p:kI [.pt kp (r8 xp lp rp k.kx k.image) 171,.ob (iO H rp k.ts),.ob (iB lp xp k.g)] l F):SL W (.ob (ij kp xp lp rp H k)::F) w:=ij.iff.2 (hS.pick p)
theorem ij.o5{g:iq}{d:DS}{ts:kC}{kx image:Int}(hS:SL W l w)(p:kI [.pt kp (r8 xp lp rp kx image) 171,.ob (iO H rp ts),.ob (iB lp xp g)] l F):SL W (.ob (ij kp xp lp rp H ⟨g,d,ts,kx,image⟩)::F) w:=ij.iff.2 (hS.pick p)
theorem ij.iK{k:g_}(hh:H.le H')(hS:SL W l w)(r:kG (.ob (ij kp xp lp rp H k)) l F):SL W (.ob (ij kp xp lp rp H' k)::F) w:=by
 have h:=ij.iff.1 (hS.perm r.perm)
 have h:=iO.iK hh h (.tl .hd)
 exact ij.iff.2 (h.perm (.swap _ _ _))
end
def wg(kp xp lp rp:Nat)(k:g_)(H:bw)(aI:Int)(r:Value)(post:List Chunk):Prop:=match k.kf aI with
 | .error e=>e≠0/\∃H',H.le H'/\r= .tuple #[agg (iG uq),.int .i64 e]/\post=[.ob (ij kp xp lp rp H' k),.mem H']
 | .ok t=>∃x H',H.le H'/\r= .tuple #[agg (iG x),.int .i64 0]/\kS H' x t/\post=[.ob (ij kp xp lp rp H' k),.mem H']
section
variable (kp xp lp rp:Nat) (k:g_) {N:Nat} (hg:oM k.g N) (hN:N<=1000000000)
include hg hN
theorem y8(H:bw)(aI:Int)(hl : -9000000000000000000<=aI/\aI<=9000000000000000000):SP 88 [eF kp,.int .i64 aI] [.ob (ij kp xp lp rp H k),.mem H] (wg kp xp lp rp k H aI):=by
 intro W F w hS;apply dWj;delta Ov aF bF ai bR;(try simp only[app]at hS)
 refine Gb λzb w hS=>?_
 have hS:=ij.iff.1 (SL.b_ hS (t:=.ob (ij kp xp lp rp H k)::.pt zb [.int .i64 0,.int .i64 0,.slice none 0 0,.slice none 0 0,.int .i64 0] 39::.mem H::F) Xi)
 refine Gp ?_
 refine Cc (qX lp xp k.g aI hg (by omega) hl) ?_;clear hS
 rintro r post hq w hS
 unfold BE at hq
 cases hr:lE k.g.bW aI with
 | none=>
  rw[hr]at hq
  obtain⟨rfl,rfl⟩:=hq
  have he:k.kf aI= .error 5:=by unfold g_.kf;rw[hr]
  try simp only[app]at hS
  have hS:=ij.put k hS Xp
  refine Gp ?_
  refine za (λ_=>?_) (λh=>absurd (by decide) h)
  refine Gn λw hS=>?_
  exact⟨[.ob (ij kp xp lp rp H k),.mem H],by unfold wg;rw[he];exact⟨by decide,H,bw.le_refl H,rfl,rfl⟩,aR hS⟩
 | some bs=>
  rw[hr]at hq
  obtain⟨u,rfl,rfl⟩:=hq
  have he:k.kf aI=mw bs:=by unfold g_.kf;rw[hr]
  have vx:=Ul hg.ok.bW hr
  try simp only[app]at hS
  have hS:=ij.put k hS Xp
  refine Gp ?_
  refine za (λh=>absurd rfl h) (λ_=>?_)
  refine Cc (Q2 (.ob (bI u 5 1 bs.length (bs.map fI))) H u bs ix.own (by omega)) ?_;clear hS
  rintro r post hq w hS
  unfold sS at hq
  cases hd:mw bs with
  | error e=>
   rw[hd]at hq
   obtain⟨jJ,H',hh,rfl,rfl⟩:=hq
   try simp only[app]at hS
   unfold iG uq
   refine Gn λw hS=>?_
   have hS:=ij.iK (k:=k) hh hS Xr
   refine⟨[.ob (ij kp xp lp rp H' k),.mem H'],?_,aR hS⟩
   unfold wg;rw[he,hd];exact⟨jJ,H',hh,rfl,rfl⟩
  | ok t=>
   rw[hd]at hq
   obtain⟨x,H',hh,rfl,hx,rfl⟩:=hq
   try simp only[app]at hS
   have kD:=hx.cv.one
   have nJ:=hx.sv.one
   refine Gp ?_
   refine zB (vs:=iG x) hS Xu rfl rfl (rM (aI:=x.aI) (kind:=x.kind) (mark:=x.mark) kD nJ) λw hS=>?_
   refine zL hS Xh rfl ?_
   have hS:=ij.iK (k:=k) hh hS Xr
   refine⟨[.ob (ij kp xp lp rp H' k),.mem H'],?_,aR hS⟩
   unfold wg;rw[he,hd];exact⟨x,H',hh,rfl,hx,rfl⟩
end
theorem qa(kp xp lp rp:Nat)(k:g_)(H:bw)(t key:Int)(n:Nat)(hn:∀C∈k.ts,C.length<=1000000):SP 107 [eF kp,.int .i64 t,.int .i64 key,.int .i64 n] [.ob (ij kp xp lp rp H k),.mem H] (λu post=>∃H',H.le H'/\post=[jC u (k.s6 t key n),.ob (ij kp xp lp rp H' k),.mem H']):=by
 intro W F w hS;apply cIx;delta J8 bF;(try simp only[app]at hS)
 have hS:=ij.iff.1 hS
 refine Gp ?_
 refine Cc (QW H rp k.ts t hn) ?_;clear hS
 rintro u post rfl w hS
 try simp only[app]at hS
 have hS:=ij.put k hS Xp
 obtain⟨H2,f',hO,hS⟩:=zu (H:=H) (v:=u) hS Xp
 have hS:=ij.iK (k:=k) f' hS Xr
 have hl:(lz k.ts t).length<=1000000:=by
  unfold lz
  split
  ·simp
  ·cases h:k.ts[t.toNat]? with
   | none=>simp
   | some C=>exact hn C (List.mem_of_getElem? h)
 refine Cc (qq H2 u (lz k.ts t) key n hO hl) ?_;clear hS
 rintro u2 post rfl w hS
 try simp only[app]at hS
 exact⟨_,⟨H2,f',rfl⟩,SL.b_ (t:=jC u2 (oy (lz k.ts t) key n)::.ob (ij kp xp lp rp H2 k)::.mem H2::F) hS Xi⟩
theorem Y8(kp xp lp rp:Nat)(d:DS)(H:bw)(x0:sh)(n:Nat)(CY:x0.2.2.length=n)(h8:n<=8){N:Nat}(cR:d.Ok N)(hN:N<=140737488355328):
  SP 85 [eF kp,.int .i64 n] [.pt kp (r8 xp lp rp x0.1 x0.2.1) 171,.ob (iO H rp x0.2.2),.ob (eI H xp d),.mem H] (λ_ post=>∃H',H.le H'/\post=[.pt kp (r8 xp lp rp (jX d.R n 1 (jX d.R n 0 x0)).1 (jX d.R n 1 (jX d.R n 0 x0)).2.1) 171,.ob (iO H' rp (jX d.R n 1 (jX d.R n 0 x0)).2.2),.ob (eI H' xp d),.mem H']):=by
 intro W F w hS;apply dWg;delta Oq aF bF fR dW ai;(try simp only[app]at hS)
 refine⟨λus w=>∃(j:Nat) (H':bw),us=[.int .i64 j]/\j<=2/\H.le H'/\(loadAt d.R n x0 j).2.2.length=n/\SL W (.pt kp (r8 xp lp rp (loadAt d.R n x0 j).1 (loadAt d.R n x0 j).2.1) 171::.ob (iO H' rp (loadAt d.R n x0 j).2.2)::.ob (eI H' xp d)::.mem H'::F) w,
  λus _=>match us with|[.int _ i]=>(2-i).toNat|_=>0,⟨0,H,rfl,by omega,bw.le_refl H,CY,hS⟩,?_⟩
 clear hS
 rintro v4 w ⟨j,H',dR,hj,hh,pC,hS⟩
 cases dR
 refine b9 (λh=>?_) (λh=>?_)
 ·have AV:j<=1:=by omega
  have lZ:=Te (R:=d.R) (n:=n) (x:=x0) AV
  have lS:∀{w:World} {H2:bw} (y:sh),jX d.R n j (loadAt d.R n x0 j)=y->H.le H2->SL W (.pt kp (r8 xp lp rp y.1 y.2.1) 171::.ob (iO H2 rp y.2.2)::.ob (eI H2 xp d)::.mem H2::F) w ->
    ∃(j':Nat) (H':bw),[Value.int .i64 ((j+1:Nat):Int)]=[.int .i64 j']/\j'<=2/\H.le H'/\(loadAt d.R n x0 j').2.2.length=n/\SL W (.pt kp (r8 xp lp rp (loadAt d.R n x0 j').1 (loadAt d.R n x0 j').2.1) 171::.ob (iO H' rp (loadAt d.R n x0 j').2.2)::.ob (eI H' xp d)::.mem H'::F) w:=λy hy iS hS=>by
   refine⟨j+1,_,rfl,by omega,iS,?_,?_⟩
   ·rw[lZ];exact Ir pC
   ·rw[lZ,hy];exact hS
  generalize hx:loadAt d.R n x0 j=x at *
  refine Gp ?_
  refine Cc (qN H' xp d N cR hN j) ?_;clear hS
  rintro r post hq w hS
  unfold Dy at hq
  cases tS:iz PF.id d.R (j:Int) with
  | none=>
   have hi:jX d.R n j x=x:=by unfold jX lU;rw[tS]
   rw[tS]at hq
   obtain⟨rfl,rfl⟩:=hq
   (try simp only[app]at hS);refine Gp ?_
   refine zw ?_
   refine Gp ?_
   exact⟨lS x hi hh (aR hS),by dsimp only;omega⟩
  | some pf=>
   rw[tS]at hq
   obtain⟨u,rfl,rfl⟩:=hq
   have j7:=cR.len _ (uJ tS).1
   (try simp only[app]at hS);refine Gp ?_
   refine zt ?_
   refine Cc (qR (.ob (bI u 5 1 pf.b.length (pf.b.map fI))) H' u pf.b ix.own (by omega)) ?_;clear hS
   rintro r post hq w hS
   unfold we at hq
   cases hd:l7 pf.b with
   | none=>
    have hi:jX d.R n j x=x:=by unfold jX lU;rw[tS];simp only;rw[hd]
    rw[hd]at hq
    obtain⟨rfl,H2,f',rfl⟩:=hq
    try simp only[app]at hS
    have hS:=iO.iK f' hS (r:=rp) (ts:=x.2.2) Xr
    have hS:=eI.iK f' hS (xp:=xp) (s:=d) Xr
    refine Gp ?_
    refine za (λh=>absurd h (by decide)) (λ_=>?_)
    refine Gp ?_
    exact⟨lS x hi (bw.le_trans hh f') (aR hS),by dsimp only;omega⟩
   | some y=>
    rw[hd]at hq
    obtain⟨v,vs,H2,f',l_,rfl,rfl⟩:=hq
    have CF:=PB hd
    have SI:=(uh.1 CF).1
    have EA:lU d.R n j=if y.2.length=n then some y else none:=by unfold lU;rw[tS];simp only;rw[hd]
    try simp only[app]at hS
    have hS:=iO.iK f' hS (r:=rp) (ts:=x.2.2) Xr
    have hS:=eI.iK f' hS (xp:=xp) (s:=d) Xr
    have iS:=bw.le_trans hh f'
    refine Gp ?_
    refine za (λ_=>?_) (λh=>absurd rfl h)
    refine zx hS (v:=v) (t:=53) (sz:=1) (n:=y.2.length) (cells:=vs) Xh ?_
    refine b9 (λhl=>?_) (λhl=>?_)
    ·have hl:y.2.length=n:=by omega
     rw[if_pos hl]at EA
     have mn:=hS.oF (v:=v) (t:=53) (sz:=1) (n:=y.2.length) (cells:=vs) Xh
     have ta:jX d.R n j x=if 0<=x.1/\y.1<=x.2.1 then x else ((j:Int),y.1,y.2):=by unfold jX;rw[EA]
     obtain⟨sv0,FK,RC,hS⟩:=iO.iff.1 (SL.b_ hS (t:=.ob (iO H2 rp x.2.2)::.pt kp (r8 xp lp rp x.1 x.2.1) 171::.ob (bI v 53 1 y.2.length vs)::.ob (eI H2 xp d)::.mem H2::F) Xi)
     refine b9 (λh0=>?_) (λh0=>?_)
     ·rw[if_neg (by omega)]at ta
      refine Gn λw hS=>?_
      have hS:=iO.put (H:=H2) (r:=rp) y.2 l_ SI.2.2.2 hS Xp
      exact⟨lS _ ta iS (aR hS),by dsimp only;omega⟩
     ·refine b9 (λh1=>?_) (λh1=>?_)
      ·rw[if_neg (by omega)]at ta
       refine Gn λw hS=>?_
       have hS:=iO.put (H:=H2) (r:=rp) y.2 l_ SI.2.2.2 hS Xp
       exact⟨lS _ ta iS (aR hS),by dsimp only;omega⟩
      ·rw[if_pos ⟨by omega,by omega⟩]at ta
       refine Gp ?_
       have hS:=iO.put (H:=H2) (r:=rp) x.2.2 RC.1 RC.2 hS Xp
       exact⟨lS _ ta iS (aR hS),by dsimp only;omega⟩
    ·rw[if_neg (by omega)]at EA
     have hi:jX d.R n j x=x:=by unfold jX;rw[EA]
     refine Gp ?_
     exact⟨lS x hi iS (aR hS),by dsimp only;omega⟩
 ·obtain rfl:j=2:=by omega
  exact⟨_,⟨H',hh,rfl⟩,hS⟩
theorem aR6{g:iq}{off:Bool}{p:List UInt8}{x:lY}(h:kd g off p= .ok x):c_ (l5 g.bW x p)=c_ g.bW+1:=by
 have key:∀(L:List g6) (s:g6),c_ ((L++[s]).dropLast++(L++[s]).getLast?.toList.map λs=>{s with size:=s.size+x.b.length,l:=s.l++[p]})=s.next:=λL s=>by
  rw[List.dropLast_concat,List.getLast?_append]
  simp only[List.getLast?_singleton,Option.some_or,Option.toList_some,List.map_cons,List.map_nil]
  unfold c_
  rw[List.getLast?_append]
  simp only[List.getLast?_singleton,Option.some_or]
  unfold g6.next
  simp only[List.length_append,List.length_singleton]
  omega
 unfold l5
 cases hf:x.fresh with
 | true=>
  simp only[if_true]
  rw[key]
  show c_ g.bW+1+(([]:List (List UInt8)).length:Int)=_
  simp
 | false=>
  simp only[Bool.false_eq_true,if_false]
  have jJ:g.bW≠[]:=λe=>by
   unfold kd ny at h
   rw[e]at h
   simp only[List.getLast?_nil]at h
   split at h
   ·cases h
   ·split at h
    ·cases h
    ·split at h
     ·cases h
     ·split at h
      ·cases h
      ·cases h;cases hf
  obtain⟨L,s,e⟩:∃L s,g.bW=L++[s]:=⟨g.bW.dropLast,g.bW.getLast jJ,(List.dropLast_concat_getLast jJ).symm⟩
  rw[e,key]
  unfold c_
  rw[List.getLast?_append]
  simp only[List.getLast?_singleton,Option.some_or]
  omega
theorem Wi{g:iq}{d:DS}{p:List UInt8}(h:(kn g d p).2.2=0):(kn g d p).2.1=c_ g.bW+1:=by
 cases hp:kd g d.off p with
 | error e=>
  rw[DK hp]at h
  unfold kd ny at hp
  have he:e≠0:=by
   split at hp
   ·cases hp;decide
   ·split at hp
    ·cases hp;decide
    ·split at hp
     ·cases hp;decide
     ·split at hp
      ·split at hp
       ·cases hp;decide
       ·cases hp
      ·split at hp
       ·cases hp
       ·split at hp
        ·cases hp;decide
        ·cases hp
  exact absurd h he
 | ok x=>
  rw[O1 hp]at h ⊢
  simp only at h ⊢
  split
  ·exact aR6 hp
  ·rename_i hn
   rw[if_neg hn]at h
   exact absurd h hn
abbrev Am(kp xp lp rp:Nat)(H:bw)(y:g_ × (Int × Int))(v:Value)(post:List Chunk):Prop:=∃(H':bw),H.le H'/\v= .tuple #[.int .i64 y.2.1,.int .i64 y.2.2]/\post=[.ob (ij kp xp lp rp H' y.1),.ob (eI H' xp y.1.d),.mem H']
theorem Yg(kp xp lp rp:Nat)(k:g_)(H:bw)(x:mu)(t:gW)(hx:kS H x t)(hm:ji t=true){N:Nat}(hk:nu k N)(hN:N<=1000000000)(iP:k.d.ops<=90000):
  SP 90 [eF kp,agg (iG x)] [.ob (ij kp xp lp rp H k),.ob (eI H xp k.d),.mem H] (Am kp xp lp rp H (k.lP t)):=by
 intro W F w hS;apply dWm;delta Oy aF bF a_ dW ai;(try simp only[app]at hS)
 have hg:=hk.g
 have Cs:=hg.hd
 obtain⟨HQ,A5,HR,HS,HT,CT,HU⟩:=nB hm
 have Es:=uP hg.ok.bW
 refine zC hS λxb w hS=>?_
 unfold iG at hS
 rw[hx.aI,hx.kind,hx.mark]at hS
 have hS:=ij.iff.1 (SL.b_ hS (t:=.ob (ij kp xp lp rp H k)::oN xb x t::.ob (eI H xp k.d)::.mem H::F) Xi)
 obtain⟨fv,ys,iA,hS⟩:=eI.iff.1 (SL.b_ hS (t:=.ob (eI H xp k.d)::.pt kp (r8 xp lp rp k.kx k.image) 171::.ob (iO H rp k.ts)::.ob (iB lp xp k.g)::oN xb x t::.mem H::F) Xi)
 refine Gp ?_
 have hS:=eI.put k.d hS iA Xp
 cases ho:k.d.off with
 | true=>
  refine zw ?_
  rw[show k.lP t=(k,(0,8)) by unfold g_.lP;rw[if_pos ho]]
  have hS:=ij.put k hS Xp
  exact⟨_,⟨H,bw.le_refl H,rfl,rfl⟩,aR hS⟩
 | false=>
  refine zt ?_
  refine Gn λw hS=>?_
  refine Cc (Qz H rp k.ts x.cv t.changes hx.cv hk.len (by omega)) ?_;clear hS
  rintro _ post ⟨H1,fF,rfl,rfl⟩ w hS
  try simp only[app]at hS
  have hS:=eI.iK fF hS (xp:=xp) (s:=k.d) Xr
  have lT:kS H1 x t:=hx.mono fF
  refine Gp ?_
  refine zz (λhf=>?_) (λhf=>?_)
  ·rw[show k.lP t=(k,(0,7)) by unfold g_.lP;rw[if_neg (by simp[ho]),if_pos (.inl hf)]]
   have hS:=ij.put k hS Xp
   exact⟨_,⟨H1,fF,rfl,rfl⟩,aR hS⟩
  refine Gp ?_
  refine Cg (zT lp xp k.g hg.ok (by omega)) λw hS=>?_
  refine za (λhh=>?_) (λhh=>?_)
  ·rw[show k.lP t=(k,(0,7)) by unfold g_.lP;rw[if_neg (by simp[ho]),if_pos (.inr (by omega))]]
   have hS:=ij.put k hS Xp
   exact⟨_,⟨H1,fF,rfl,rfl⟩,aR hS⟩
  refine Gp ?_
  refine Cg (zT lp xp k.g hg.ok (by omega)) λw hS=>?_
  have tc:=It hm (n:=c_ k.g.bW+1) (by omega) (by omega)
  have mZ:kS H1 ⟨c_ k.g.bW+1,t.kind,x.cv,x.sv,t.mark⟩ {t with aI:=c_ k.g.bW+1}:=⟨rfl,rfl,rfl,lT.cv,lT.sv⟩
  have Ch:k.lP t=(let r:=kn k.g k.d (mv {t with aI:=c_ k.g.bW+1});if r.2.2=0 then ({k with g:=r.1.1,d:=r.1.2,ts:=jS k.ts t.changes},(c_ k.g.bW+1,0)) else ({k with g:=r.1.1,d:=r.1.2},(0,r.2.2))):=by
   unfold g_.lP
   rw[if_neg (by simp[ho]),if_neg (by rw[hf];simp;omega)]
  have vx:=DQ tc
  have Em:=Pe tc
  rw[Ch]
  clear Ch
  generalize hq:({t with aI:=c_ k.g.bW+1}:gW)=t2 at *
  have EH:1<=c_ k.g.bW+1:=by omega
  have aW8:=λh=>Wi (g:=k.g) (d:=k.d) (p:=mv t2) h
  generalize c_ k.g.bW+1=aI at *
  refine Cc (Q3 H1 ⟨aI,t.kind,x.cv,x.sv,t.mark⟩ t2 mZ) ?_;clear hS
  rintro r post hq w hS
  unfold vZ at hq
  rw[Em]at hq
  obtain⟨bv,rfl,rfl⟩:=hq
  try simp only[app]at hS
  obtain⟨H2,f',hB,hS⟩:=zu (H:=H1) (v:=bv) (n:=(pZ t2).length) (sz:=1) (t:=5) (cells:=(pZ t2).map fI) hS Xp
  have hS:=eI.iK f' hS (xp:=xp) (s:=k.d) Xr
  have hS:=iO.iK f' hS (r:=rp) (ts:=k.ts) Xr
  have iS:=bw.le_trans fF f'
  refine Gp ?_
  refine Cc (Yx H2 lp xp k.g k.d bv (pZ t2) hB (by omega) hg (by omega) hk.d (by omega) iP) ?_;clear hS
  rintro _ post ⟨rfl,H3,jA,rfl⟩ w hS
  try simp only[app]at hS
  have hS:=iO.iK jA hS (r:=rp) (ts:=k.ts) Xr
  have mM:=bw.le_trans iS jA
  generalize kn k.g k.d (mv t2)=r at *
  obtain⟨⟨g',d'⟩,n',e'⟩:=r
  simp only at hS ⊢
  refine b9 (λhe=>?_) (λhe=>?_)
  ·rw[if_neg he]
   have hS:=ij.o5 (d:=d') hS Xp
   exact⟨_,⟨H3,mM,rfl,rfl⟩,aR hS⟩
  ·have he:e'=0:=by omega
   rw[if_pos he]
   have pB:=hx.mono mM
   refine Gn λw hS=>?_
   refine Cc (y3 H3 rp k.ts x.cv t.changes pB.cv hk.len (by omega)) ?_;clear hS
   rintro _ post nL w hS
   have iD:t.changes.all (kJ k.ts.length)=true:=by
    unfold pr at hf
    rw[Bool.and_eq_true]at hf
    exact hf.1
   unfold Ae at nL
   rw[if_pos iD]at nL
   obtain⟨rfl,H4,ld,rfl⟩:=nL
   try simp only[app]at hS
   have hS:=eI.iK ld hS (xp:=xp) (s:=d') Xr
   have hS:=ij.o5 (d:=d') hS Xp
   obtain rfl:n'=aI:=aW8 he
   exact⟨_,⟨H4,bw.le_trans mM ld,rfl,rfl⟩,aR hS⟩
theorem Yz(kp xp lp rp:Nat)(k:g_)(H:bw)(sv cv:Value)(sg:List ByteArray)(l:List iy)(hs:fW H 1 sv sg.length (sg.map Value.string))(hc:fW H 4 cv l.length (l.map jE).flatten)(hl:l.length<=140737488351232){N:Nat}(hk:nu k N)(hN:N<=1000000000)(iP:k.d.ops<=90000):
  SP 31 [eF kp,sv,cv] [.ob (ij kp xp lp rp H k),.ob (eI H xp k.d),.mem H] (Am kp xp lp rp H (k.nx sg l)):=by
 intro W F w hS;apply dIb;delta Nh aF bF a_ dW ai bR;(try simp only[app]at hS)
 have tZ:=hs.one
 have kD:=hc.one
 have hx:kS H ⟨1,1,cv,sv,0⟩ ⟨1,1,l,sg,0⟩:=⟨rfl,rfl,rfl,hc,hs⟩
 have e0:lr [.int .i64 0,.int .i64 0,.slice none 0 0,.slice none 0 0,.int .i64 0] [(0,1,.int .i64 1),(1,1,.int .i64 1),(2,1,cv),(3,1,sv)]=some (iG ⟨1,1,cv,sv,0⟩):=by
  simp[lr,show ∀n,(Value.int .i64 n).cells = #[.int .i64 n] from λ_=>rfl,vQ tZ,vQ kD,iG]
 refine yz e0 ?_
 refine Gb λxb w hS=>?_
 refine zB hS Xu rfl rfl (rM kD tZ) λw hS=>?_
 refine zL hS Xh rfl ?_
 refine Cg (yy H ⟨1,1,cv,sv,0⟩ ⟨1,1,l,sg,0⟩ hx) λw hS=>?_
 refine zz (λhm=>?_) (λhm=>?_)
 ·rw[show k.nx sg l=(k,(0,1)) by unfold g_.nx;rw[if_neg (by rw[hm];simp)]]
  exact⟨_,⟨H,bw.le_refl H,rfl,rfl⟩,aR hS⟩
 have Hy:=(nB hm).2.2.2.2.2.1
 have Hy:∀c∈l,ma c 8=true:=Hy
 refine⟨λus w=>∃i:Nat,us=[.int .i64 i]/\i<=l.length/\(∀j (h:j<l.length),j<i->l[j].table<(k.ts.length:Int))/\SL W (.ob (ij kp xp lp rp H k)::.ob (eI H xp k.d)::.pt xb (iG ⟨1,1,cv,sv,0⟩) 39::.mem H::F) w,λus _=>match us with|[.int _ i]=>(l.length-i).toNat|_=>0,⟨0,rfl,by omega,λj h hj=>by omega,aR hS⟩,?_⟩
 clear hS
 rintro v9 w ⟨i,dR,hi,iD,hS⟩
 cases dR
 refine zn hc ?_
 refine b9 (λh=>?_) (λh=>?_)
 ·have b8:i<l.length:=by omega
  have xG:=wN.1 (Hy _ (List.getElem_mem b8))
  have hS:=ij.iff.1 (SL.b_ hS (t:=.ob (ij kp xp lp rp H k)::.ob (eI H xp k.d)::.pt xb (iG ⟨1,1,cv,sv,0⟩) 39::.mem H::F) Xi)
  refine Gn λw hS=>?_
  refine zA hS Xh mP hc (x:=l[i]) (List.getElem?_eq_getElem b8) b8 (i:=0) rfl ?_
  refine Cg (Z7 H rp k.ts l[i].table) λw hS=>?_
  have hS:=ij.put k hS Xp
  refine zz (λhe=>?_) (λhe=>?_)
  ·have he:=of_decide_eq_false he
   rw[show k.nx sg l=(k,(0,1)) by unfold g_.nx;rw[if_neg λh=>he ⟨xG.1,h.2 _ (List.getElem_mem b8)⟩]]
   exact⟨_,⟨H,bw.le_refl H,rfl,rfl⟩,aR hS⟩
  ·have he:=of_decide_eq_true he
   refine Gp ?_
   refine⟨⟨i+1,rfl,by omega,λj hj ll=>?_,aR hS⟩,by dsimp only;omega⟩
   by_cases e:j=i
   ·subst e;exact he.2
   ·exact iD j hj (by omega)
 ·have hA:∀c∈l,c.table<(k.ts.length:Int):=λc hc=>by
   obtain⟨j,hj,rfl⟩:=List.getElem_of_mem hc
   exact iD j hj (by omega)
  rw[show k.nx sg l=k.lP ⟨1,1,l,sg,0⟩ by unfold g_.nx;rw[if_pos ⟨hm,hA⟩]]
  refine zL hS Xh rfl ?_
  refine Cc (Yg kp xp lp rp k H ⟨1,1,cv,sv,0⟩ ⟨1,1,l,sg,0⟩ hx hm hk hN iP) ?_;clear hS
  rintro _ post ⟨H',hh,rfl,rfl⟩ w hS
  (try simp only[app]at hS);refine Gp ?_
  exact⟨_,⟨H',hh,rfl,rfl⟩,aR hS⟩
theorem ZQ(kp xp lp rp:Nat)(k:g_)(H:bw)(kind mark:Int){N:Nat}(hk:nu k N)(hN:N<=1000000000)(iP:k.d.ops<=90000):
  SP 210 [eF kp,.int .i64 kind,.int .i64 mark] [.ob (ij kp xp lp rp H k),.ob (eI H xp k.d),.mem H] (Am kp xp lp rp H (k.lV kind mark)):=by
 intro W F w hS;apply c_o;delta LF aF dW ai bR;(try simp only[app]at hS)
 have hx:kS H ⟨1,kind,.slice none 0 0,.slice none 0 0,mark⟩ ⟨1,kind,[],[],mark⟩:=⟨rfl,rfl,rfl,fW.nil _ _,fW.nil _ _⟩
 have gi:∀{w:World},¬((kind=2\/kind=3)/\ji ⟨1,kind,[],[],mark⟩=true)->SL W (.ob (ij kp xp lp rp H k)::.ob (eI H xp k.d)::.mem H::F) w->∃post,Am kp xp lp rp H (k.lV kind mark) (.tuple #[.int .i64 0,.int .i64 1]) post/\SL W (app post F) w:=λh hS=>by
  rw[show k.lV kind mark=(k,(0,1)) from if_neg h]
  exact⟨_,⟨H,bw.le_refl H,rfl,rfl⟩,hS⟩
 refine yz (Tt kind mark) ?_
 refine Gb λxb w hS=>?_
 have s9:∀{w:World},(kind=2\/kind=3)->SL W (.pt xb (iG ⟨1,kind,.slice none 0 0,.slice none 0 0,mark⟩) 39::.ob (ij kp xp lp rp H k)::.ob (eI H xp k.d)::.mem H::F) w->zh 5 (eF xb) w λDs=>aw 89 [Ds] w λv20 pG=>y0 v20 λDt=>g9 Dt (∃post,Am kp xp lp rp H (k.lV kind mark) (.tuple #[.int .i64 0,.int .i64 1]) post/\SL W (app post F) pG)
   (zh 5 (eF xb) pG λv24=>aw 90 [eF kp,v24] pG λv25 Jx=>zf 0 v25 λv26=>zf 1 v25 λv27=>∃post,Am kp xp lp rp H (k.lV kind mark) (.tuple #[v26,v27]) post/\SL W (app post F) Jx):=λh2 hS=>by
  refine zL hS Xh rfl ?_
  refine Cg (yy H ⟨1,kind,.slice none 0 0,.slice none 0 0,mark⟩ ⟨1,kind,[],[],mark⟩ hx) λw hS=>?_
  refine zz (λh=>gi (λx=>by rw[x.2]at h;cases h) (aR hS)) (λh=>?_)
  rw[show k.lV kind mark=k.lP ⟨1,kind,[],[],mark⟩ from if_pos ⟨h2,h⟩]
  refine zL hS Xh rfl ?_
  refine Cc (Yg kp xp lp rp k H ⟨1,kind,.slice none 0 0,.slice none 0 0,mark⟩ ⟨1,kind,[],[],mark⟩ hx h hk hN iP) ?_;clear hS
  rintro _ post ⟨H',hh,rfl,rfl⟩ w hS
  (try simp only[app]at hS);refine Gp ?_
  exact⟨_,⟨H',hh,rfl,rfl⟩,aR hS⟩
 refine za (λh=>?_) (λh=>s9 (.inl (by omega)) (aR hS))
 refine Gp ?_
 exact za (λh2=>gi (λx=>by omega) (aR hS)) (λh2=>s9 (.inr (by omega)) (aR hS))
def FV(xp:Nat)(H:bw)(y:DS × Except Int g_)(r:Value)(post:List Chunk):Prop:=match y.2 with
 | .error e=>e≠0/\∃H',H.le H'/\r= .tuple #[.pointer none,.int .i64 e]/\post=[.ob (eI H' xp y.1),.mem H']
 | .ok k=>∃kp lp rp H',H.le H'/\r= .tuple #[eF kp,.int .i64 0]/\post=[.ob (ij kp xp lp rp H' k),.ob (eI H' xp y.1),.mem H']
theorem qZ(H:bw)(xp:Nat)(d:DS)(k6 size:Int){N B:Nat}(cR:d.Ok B)(hB:B<=140737488355328)(hw:sY d.R 16 N)(hN:N<=900000000)(iP:d.ops<=90000)(hn:∀d' g,kV d 16 size=(d',.ok g)->(iY g.bW).length<=50000):
  SP 30 [eF xp,.int .i64 k6,.int .i64 size] [.ob (eI H xp d),.mem H] (FV xp H (sL d k6 size)):=by
 intro W F w hS;apply dF2;delta M8 aF bF a_ aW d_ ai gw bR;(try simp only[app]at hS)
 have hR:=cR.Bm
 have gi:∀{w:World},(k6<1\/8<k6)->SL W (.ob (eI H xp d)::.mem H::F) w->∃post,FV xp H (sL d k6 size) (.tuple #[.pointer none,.int .i64 1]) post/\SL W (app post F) w:=λht hS=>by
  rw[show sL d k6 size=(d,.error 1) by unfold sL;rw[if_pos ht]]
  exact⟨_,⟨by decide,H,bw.le_refl H,rfl,rfl⟩,hS⟩
 refine Gp ?_
 refine za (λh=>gi (by omega) hS) (λh1=>?_)
 refine Gp ?_
 refine za (λh=>gi (by omega) hS) (λh2=>?_)
 clear gi
 have ht:¬(k6<1\/8<k6):=by omega
 obtain⟨n,rfl⟩:∃n:Nat,k6=n:=⟨k6.toNat,by omega⟩
 refine Cc (b94 H xp d 16 size cR hB hw (by omega) (by omega) (by omega)) ?_;clear hS
 rintro r post hq w hS
 unfold sL
 rw[if_neg ht]
 unfold Dx at hq
 have Cl:=T2 (base:=16) (size:=size) cR
 cases xV:kV d 16 size with
 | mk d' o=>
  rw[xV]at hq Cl
  cases o with
  | error e=>
   obtain⟨he,rfl,H1,fF,rfl⟩:=hq
   (try simp only[app]at hS);refine Gp ?_
   refine za (λ_=>?_) (λh=>absurd he h)
   exact⟨_,⟨he,H1,fF,rfl,rfl⟩,aR hS⟩
  | ok g=>
   obtain⟨lp,H1,fF,rfl,rfl⟩:=hq
   have hG:=T1 hw (by omega) xV
   have aWa:=hn d' g xV
   obtain⟨x1,x2,x3⟩:=Tf d'.R n
   (try simp only[app]at hS);refine Gp ?_
   refine za (λh=>absurd rfl h) (λ_=>?_)
   refine Cc (bRq H1 n (by omega) (by omega)) ?_;clear hS
   rintro _ post ⟨rp,rfl,rfl⟩ w hS
   (try simp only[app]at hS);refine Gp ?_
   refine zC hS λkp w hS=>?_
   refine Cc (Y8 kp xp lp rp d' H1 (-1,0,List.replicate n []) n List.length_replicate (by omega) Cl hB) ?_;clear hS
   rintro _ post ⟨H2,f',rfl⟩ w hS
   try simp only[app]at hS
   have EG:jX d'.R n 1 (jX d'.R n 0 (-1,0,List.replicate n []))=pR d'.R n:=rfl
   rw[EG]at hS
   simp only[Int.toNat_natCast]
   generalize pR d'.R n=x at *
   obtain⟨nw,im,T0⟩:=x
   simp only at x1 x2 x3 hS ⊢
   have iS:=bw.le_trans fF f'
   have wE:=PZ hG.seq
   have wI:=Tm hG.ok.bW
   have Cs:=hG.hd
   have Ca:N+100000<=1000000000:=by omega
   have hF:∀{w:World} {H':bw},(match oG n im (iY g.bW) (jT g.bW) T0 with
     | none=>((d',.error 3):DS × Except Int g_)
     | some ts=>if im<=c_ g.bW/\jT g.bW<=im+1 then (d',.ok ⟨g,d',ts,nw,im⟩) else (d',.error 3))=(d',.error 3)->H.le H'->SL W (.ob (eI H' xp d')::.mem H'::F) w ->
     ∃post,FV xp H (match oG n im (iY g.bW) (jT g.bW) T0 with
     | none=>((d',.error 3):DS × Except Int g_)
     | some ts=>if im<=c_ g.bW/\jT g.bW<=im+1 then (d',.ok ⟨g,d',ts,nw,im⟩) else (d',.error 3)) (.tuple #[.pointer none,.int .i64 3]) post/\SL W (app post F) w:=λhe hh hS=>by
    rw[he]
    exact⟨_,⟨by decide,_,hh,rfl,rfl⟩,hS⟩
   refine⟨λus w=>us=[.bool (decide (c_ g.bW<im\/im+1<jT g.bW))]/\SL W (.pt kp (r8 xp lp rp nw im) 171::.ob (iO H2 rp T0)::.ob (iB lp xp g)::.ob (eI H2 xp d')::.mem H2::F) w,?_,?_⟩
   ·refine Gn λw hS=>?_
    refine Cg (zT lp xp g hG.ok (by omega)) λw hS=>?_
    refine za (λh=>?_) (λh=>?_)
    ·skip
     exact⟨by rw[decide_eq_true (show c_ g.bW<im\/im+1<jT g.bW from .inl (by omega))],aR hS⟩
    ·refine Gp ?_
     refine Cg (ZE lp xp g hG.ok (by omega)) λw hS=>?_
     refine⟨?_,aR hS⟩
     congr 2
     rw[decide_eq_decide];omega
   clear hS
   rintro v11 w ⟨dR,hS⟩
   cases dR
   refine Cg (ZE lp xp g hG.ok (by omega)) λw hS=>?_
   have hS:=ij.o5 (d:=d') hS Xp
   refine⟨λus w=>∃(i:Nat) (T:kC) (H3:bw),us=[.int .i64 (jT g.bW+i)]/\i<=(iY g.bW).length/\oG n im (iY g.bW) (jT g.bW) T0=oG n im ((iY g.bW).drop i) (jT g.bW+i) T/\T.length=n/\(∀C∈T,C.length<=1000+16*i)/\H.le H3/\SL W (.ob (ij kp xp lp rp H3 ⟨g,d',T,nw,im⟩)::.ob (eI H3 xp d')::.mem H3::F) w,
    λus _=>match us with|[.int _ i]=>(c_ g.bW+1-i).toNat|_=>0,⟨0,T0,H2,by simp,by omega,by simp,x1,λC hC=>by have:=(x3 C hC).len;omega,iS,aR hS⟩,?_⟩
   clear hS
   rintro nS w ⟨i,T,H3,dR,hi,iA,sC,sD,hh,hS⟩
   cases dR
   have hS:SL W (.pt kp (r8 xp lp rp nw im) 171::.ob (iO H3 rp T)::.ob (iB lp xp g)::.ob (eI H3 xp d')::.mem H3::F) w:=ij.iff.1 hS
   refine Cg (zT lp xp g hG.ok (by omega)) λw hS=>?_
   refine za (λh=>?_) (λh=>?_)
   ·have b8:i<(iY g.bW).length:=by omega
    have CO:=hG.seq.read i
    rw[List.getElem?_eq_getElem b8]at CO
    rw[List.drop_eq_getElem_cons b8,Uq]at iA
    generalize (iY g.bW)[i]=bs at *
    have sG:1<=jT g.bW+i/\jT g.bW+i<=1099511627776:=by omega
    generalize hlq:jT g.bW+i=aI at *
    have hS:=ij.o5 (d:=d') hS Xp
    refine Cc (y8 kp xp lp rp ⟨g,d',T,nw,im⟩ hG Ca H3 aI (by omega)) ?_;clear hS
    rintro r post hq w hS
    unfold wg g_.kf at hq
    simp only at hq
    rw[CO]at hq
    simp only at hq
    cases hd:mw bs with
    | error e=>
     rw[hd]at hq iA
     obtain⟨jJ,H4,ld,rfl,rfl⟩:=hq
     try simp only[app]at hS
     have hS:=eI.iK ld hS (xp:=xp) (s:=d') Xr
     unfold iG uq
     refine Gm λb w hS=>?_
     refine za (λ_=>?_) (λh=>absurd jJ h)
     exact hF (by rw[iA]) (bw.le_trans hh ld) (aR hS)
    | ok t=>
     rw[hd]at hq iA
     obtain⟨xx,H4,ld,rfl,hx,rfl⟩:=hq
     have Ec:=bw.le_trans hh ld
     obtain⟨HQ,A5,HR,HS,HT,CT,HU⟩:=nB (Gx hd)
     try simp only[app]at hS
     have hS:=eI.iK ld hS (xp:=xp) (s:=d') Xr
     refine Gp ?_
     refine zI hS λxb w hS=>?_
     refine zB (vs:=iG xx) hS Xu rfl rfl (rM (aI:=xx.aI) (kind:=xx.kind) (mark:=xx.mark) hx.cv.one hx.sv.one) λw hS=>?_
     unfold iG at hS
     rw[hx.aI,hx.kind,hx.mark]at hS
     refine Gp ?_
     refine za (λh=>absurd rfl h) (λ_=>?_)
     refine Gp ?_
     simp only at iA
     refine za (λhl=>?_) (λhl=>?_)
     ·rw[if_neg λh=>hl h.1]at iA
      exact hF (by rw[iA]) Ec (aR hS)
     have hS:=SL.b_ hS (t:=.pt xb [.int .i64 t.aI,.int .i64 t.kind,xx.cv,xx.sv,.int .i64 t.mark] 39::.ob (ij kp xp lp rp H4 ⟨g,d',T,nw,im⟩)::.ob (eI H4 xp d')::.mem H4::F) Xi
     refine⟨λus w=>∃j:Nat,us=[.int .i64 j]/\j<=t.changes.length/\(∀a (h:a<t.changes.length),a<j->t.changes[a].table<(n:Int))/\SL W (.pt xb [.int .i64 t.aI,.int .i64 t.kind,xx.cv,xx.sv,.int .i64 t.mark] 39::.ob (ij kp xp lp rp H4 ⟨g,d',T,nw,im⟩)::.ob (eI H4 xp d')::.mem H4::F) w,
      λus _=>match us with|[.int _ i]=>(t.changes.length-i).toNat|_=>0,⟨0,rfl,by omega,λa h ha=>by omega,hS⟩,?_⟩
     clear hS
     rintro Br w ⟨j,dR,hj,iD,hS⟩
     cases dR
     refine Gp ?_
     refine zn hx.cv ?_
     refine b9 (λjI=>?_) (λjI=>?_)
     ·have jI:j<t.changes.length:=by omega
      refine Gp ?_
      refine zA hS Xh mP hx.cv (x:=t.changes[j]) (List.getElem?_eq_getElem jI) jI (i:=0) rfl ?_
      refine b9 (λhe=>?_) (λhe=>?_)
      ·rw[if_neg λh=>by have:=h.2 _ (List.getElem_mem jI);omega]at iA
       exact hF (by rw[iA]) Ec (aR hS)
      ·refine Gp ?_
       refine⟨⟨j+1,rfl,by omega,λa ha haj=>?_,aR hS⟩,by dsimp only;omega⟩
       by_cases e:a=j
       ·subst e;omega
       ·exact iD a ha (by omega)
     ·have hb:∀c∈t.changes,c.table<(n:Int):=λc hc=>by
       obtain⟨a,ha,rfl⟩:=List.getElem_of_mem hc
       exact iD a ha (by omega)
      have RT:t.changes.all (kJ T.length)=true:=List.all_eq_true.2 λc hc=>decide_eq_true ⟨(wN.1 (CT c hc)).1,by rw[sC];exact hb c hc⟩
      rw[if_pos (show t.aI=aI/\∀c∈t.changes,c.table<(n:Int) from ⟨by omega,hb⟩)]at iA
      have xP:aI+1=jT g.bW+((i+1:Nat):Int):=by omega
      rw[xP]at iA
      have hS:SL W (.pt kp (r8 xp lp rp nw im) 171::.ob (iO H4 rp T)::.ob (iB lp xp g)::_) w:=ij.iff.1 (SL.b_ hS (t:=.ob (ij kp xp lp rp H4 ⟨g,d',T,nw,im⟩)::.pt xb [.int .i64 t.aI,.int .i64 t.kind,xx.cv,xx.sv,.int .i64 t.mark] 39::.ob (eI H4 xp d')::.mem H4::F) Xi)
      refine b9 (λvB=>?_) (λvB=>?_)
      ·rw[if_pos (show im<aI by omega)]at iA
       refine Gn λw hS=>?_
       refine Cc (y3 H4 rp T xx.cv t.changes hx.cv sD (by omega)) ?_;clear hS
       rintro _ post nL w hS
       unfold Ae at nL
       rw[if_pos RT]at nL
       obtain⟨rfl,H5,Ed,rfl⟩:=nL
       try simp only[app]at hS
       have hS:=eI.iK Ed hS (xp:=xp) (s:=d') Xr
       have hS:=ij.o5 (d:=d') hS Xp
       refine Gp ?_
       rw[xP]
       refine⟨⟨i+1,jS T t.changes,H5,rfl,by omega,iA,by rw[uy];exact sC,λC hC=>?_,bw.le_trans Ec Ed,aR hS⟩,by dsimp only;omega⟩
       have:=Ap (1000+16*i) (l:=t.changes) sD (λc hc=>List.all_eq_true.1 RT c hc) C hC
       omega
      ·rw[if_neg (show ¬im<aI by omega)]at iA
       have hS:=ij.o5 (d:=d') hS Xp
       refine Gp ?_
       rw[xP]
       exact⟨⟨i+1,T,H4,rfl,by omega,iA,sC,λC hC=>by have:=sD C hC;omega,Ec,aR hS⟩,by dsimp only;omega⟩
   ·obtain rfl:i=(iY g.bW).length:=by omega
    rw[List.drop_length]at iA
    have iA:oG n im (iY g.bW) (jT g.bW) T0=some T:=iA
    have hS:=ij.o5 (d:=d') hS Xp
    refine za (λhb=>?_) (λhb=>?_)
    ·exact hF (by rw[iA];simp only;rw[if_neg (by omega)]) hh (aR hS)
    ·rw[iA]
     simp only
     rw[if_pos (show im<=c_ g.bW/\jT g.bW<=im+1 by omega)]
     exact⟨_,⟨kp,lp,rp,H3,hh,rfl,rfl⟩,aR hS⟩
theorem qY(H:bw)(v:Value)(L:List Rq)(hv:mh H v L)(hn:L.length<=1000):SP 214 [v] [.mem H] (λu post=>post=[pV u (kQ L),.mem H]):=by
 intro W F w hS;apply c_s;delta LJ aF a_ dW ai bR;(try simp only[app]at hS)
 have hS:SL W (pV (.slice none 0 0) []::_) w:=bI.nil hS
 refine⟨λus w=>∃(i:Nat) (u:Value),us=[u,.int .i64 i]/\i<=L.length/\SL W (pV u (kQ (L.take i))::.mem H::F) w,λus _=>match us with|[_,.int _ i]=>(L.length-i).toNat|_=>0,⟨0,.slice none 0 0,rfl,by omega,hS⟩,?_⟩
 clear hS
 rintro v3 v8 w ⟨i,u,dR,hi,hS⟩
 cases dR
 refine zn hv ?_
 refine b9 (λh=>?_) (λh=>?_)
 ·have b8:i<L.length:=by omega
  have hx:L[i]?=some L[i]:=List.getElem?_eq_getElem b8
  have i_:=II b8
  have hle:=Db L i
  refine zA hS Xh kU hv hx b8 (i:=6) rfl ?_
  refine Gp ?_
  refine zz (λhd=>?_) (λhd=>?_)
  ·rw[if_pos hd]at i_
   refine zK hS Xh kU hv hx b8 ?_
   generalize L[i]=r at *
   refine Gm λyb w hS=>?_
   refine zX (n:=(kQ (L.take i)).length) (xs:=kQ (L.take i)) (y:=r) (enc:=ka) hS Xr Xh kU uE rfl (by omega) (by omega) λv2 w hS=>?_
   have hS:=hS.o9 (x:=r)
   rw[<- i_]at hS
   refine Gp ?_
   exact⟨⟨i+1,v2,rfl,by omega,aR hS⟩,by dsimp only;omega⟩
  ·rw[if_neg (by simp[hd]),List.append_nil]at i_
   rw[<- i_]at hS
   refine Gp ?_
   exact⟨⟨i+1,v3,rfl,by omega,aR hS⟩,by dsimp only;omega⟩
 ·rw[List.take_of_length_le (by omega)]at hS
  exact⟨_,rfl,aR hS⟩
abbrev lW(kp mp gp:Nat)(n:Int):List Value:=[eF kp,eF mp,.int .i64 n,eF gp]
abbrev FW(kp xp lp rp mp wp pp gp:Nat)(H:bw)(p:ig):List Chunk:=[.pt pp (lW kp mp gp p.n) 286,.ob (jy gp H p.d),.ob (iL mp wp H p.m),.ob (ij kp xp lp rp H p.k),.ob (eI H xp p.k.d),.mem H]
theorem q6(kp mp:Nat)(H:bw)(n:Int):SP 115 [eF kp,eF mp,.int .i64 n] [] (λv post=>(¬(1<=n/\n<=64)/\v= .pointer none/\post=[]) \/
  ((1<=n/\n<=64)/\∃pp gp:Nat,v=eF pp/\post=[.pt pp (lW kp mp gp n) 286,.ob (jy gp H nW)])):=by
 intro W F w hS;apply cI2;delta Kb aF ai gw;(try simp only[app]at hS)
 refine Gp ?_
 refine za (λh=>⟨_,.inl ⟨by omega,rfl,rfl⟩,hS⟩) (λh1=>?_)
 refine Gp ?_
 refine za (λh=>⟨_,.inl ⟨by omega,rfl,rfl⟩,hS⟩) (λh2=>?_)
 refine Cc (QQ H) ?_;clear hS
 rintro _ post ⟨gp,rfl,rfl⟩ w hS
 (try simp only[app]at hS);refine Gp ?_
 refine⟨_,rfl,zI hS λpp w hS=>?_⟩
 exact⟨_,.inr ⟨by omega,pp,gp,rfl,rfl⟩,aR hS⟩
theorem Zh(kp mp wp pp gp:Nat)(n:Int)(H:bw)(m:h_)(hn:m.reqs.length<=1000):SP 130 [eF pp] [.pt pp (lW kp mp gp n) 286,.ob (iL mp wp H m),.mem H] (eW (.bool (uY m)) [.pt pp (lW kp mp gp n) 286,.ob (iL mp wp H m),.mem H]):=by
 intro W F w hS;apply cRi;delta Kq aF bF cw ai;(try simp only[app]at hS)
 unfold uY
 obtain⟨rv,hr,hS⟩:=iL.iff.1 (SL.b_ hS (t:=.ob (iL mp wp H m)::.pt pp (lW kp mp gp n) 286::.mem H::F) Xi)
 obtain⟨wv,hw,hS⟩:=iH.iff.1 (SL.b_ hS (t:=.ob (iH wp H m.cF)::.pt mp (nO m wp rv) 212::.pt pp (lW kp mp gp n) 286::.mem H::F) Xi)
 have lR:∀{w:World},SL W (.pt wp (sQ m.cF wv) 214::.pt mp (nO m wp rv) 212::.pt pp (lW kp mp gp n) 286::.mem H::F) w->SL W (app [.pt pp (lW kp mp gp n) 286,.ob (iL mp wp H m),.mem H] F) w:=λhS=>by
  have hS:=iH.put m.cF wv hw hS Xr
  have hS:=iL.put m rv hr hS Xp
  exact aR hS
 refine b9 (λh=>?_) (λh1=>?_)
 ·rw[decide_eq_true (.inl h)]
  exact⟨_,⟨rfl,rfl⟩,lR hS⟩
 refine b9 (λh=>?_) (λh2=>?_)
 ·rw[decide_eq_true (.inr (.inl h))]
  exact⟨_,⟨rfl,rfl⟩,lR hS⟩
 refine b9 (λh3=>?_) (λh3=>?_)
 ·refine Gp ?_
  refine Cc (qY H rv m.reqs hr hn) ?_;clear hS
  rintro u2 post rfl w hS
  try simp only[app]at hS
  refine zx hS (v:=u2) (t:=125) (sz:=7) (n:=(kQ m.reqs).length) (cells:=((kQ m.reqs).map ka).flatten) Xh ?_
  refine Gp ?_
  have e:decide (m.cF.state=1\/m.cF.state=2\/m.cF.state=0/\kQ m.reqs≠[])=decide ((0:Int)<((kQ m.reqs).length:Int)):=by
   rw[decide_eq_decide]
   constructor
   ·rintro (h|h|h)
    ·exact absurd h h1
    ·exact absurd h h2
    ·have:=List.length_pos_iff.2 h.2;omega
   ·intro h
    exact .inr (.inr ⟨h3,λe=>by rw[e]at h;simp at h⟩)
  rw[e]
  exact⟨_,⟨rfl,rfl⟩,lR (aR hS)⟩
 ·rw[decide_eq_false (λh=>h.elim h1 (λh=>h.elim h2 (λh=>h3 h.1)))]
  exact⟨_,⟨rfl,rfl⟩,lR hS⟩
def JV(kp xp lp rp mp wp pp gp:Nat)(H:bw)(y:ig × (Int × Int))(v:Value)(post:List Chunk):Prop:=∃H',H.le H'/\v= .tuple #[.int .i64 y.2.1,.int .i64 y.2.2]/\post=FW kp xp lp rp mp wp pp gp H' y.1
theorem q5(kp xp lp rp mp wp pp gp:Nat)(H:bw)(p:ig){N:Nat}(hp:p.Good N)(hN:N<=900000000)(iP:p.k.d.ops<=90000)(ho:kQ p.m.reqs≠[]):SP 208 [eF pp] (FW kp xp lp rp mp wp pp gp H p) (JV kp xp lp rp mp wp pp gp H p.wM):=by
 intro W F w hS;apply c_l;delta LB aF bF a_ dW ai;(try simp only[app]at hS)
 have hk:=hp.src
 have vF:=hp.reqs.1
 have Es:=uP hk.g.ok.bW
 have AS:=hk.g.hd
 have sE:=hp.d.len
 obtain⟨rv,hr,hS⟩:=iL.iff.1 (SL.b_ hS (t:=.ob (iL mp wp H p.m)::.pt pp (lW kp mp gp p.n) 286::.ob (jy gp H p.d)::.ob (ij kp xp lp rp H p.k)::.ob (eI H xp p.k.d)::.mem H::F) Xi)
 refine⟨λus w=>∃(i:Nat) (H1:bw),us=[.int .i64 i]/\i<=p.m.reqs.length/\H.le H1/\SL W (.ob (jy gp H1 (((p.m.reqs.take i).filter (·.done)).foldl (λd r=>d.del r.id) p.d))::.pt mp (nO p.m wp rv) 212::.ob (iH wp H1 p.m.cF)::.pt pp (lW kp mp gp p.n) 286::.ob (ij kp xp lp rp H1 p.k)::.ob (eI H1 xp p.k.d)::.mem H1::F) w,
  λus _=>match us with|[.int _ i]=>(p.m.reqs.length-i).toNat|_=>0,⟨0,H,rfl,by omega,bw.le_refl H,SL.b_ hS (t:=.ob (jy gp H p.d)::.pt mp (nO p.m wp rv) 212::.ob (iH wp H p.m.cF)::.pt pp (lW kp mp gp p.n) 286::.ob (ij kp xp lp rp H p.k)::.ob (eI H xp p.k.d)::.mem H::F) Xi⟩,?_⟩
 clear hS
 rintro v4 w ⟨i,H1,dR,hi,fF,hS⟩
 cases dR
 refine Gp ?_
 refine zn (hr.mono fF) ?_
 refine b9 (λh=>?_) (λh=>?_)
 ·have b8:i<p.m.reqs.length:=by omega
  have hx:p.m.reqs[i]?=some p.m.reqs[i]:=List.getElem?_eq_getElem b8
  have i_:=PN b8
  have hle:=Az ((p.m.reqs.take i).filter (·.done)) p.d
  have hdo:=GA ((p.m.reqs.take i).filter (·.done)) hp.d
  refine Gp ?_
  refine zA hS Xh kU (hr.mono fF) hx b8 (i:=6) rfl ?_
  refine yO (λhq=>?_) (λhq=>?_)
  ·rw[if_pos hq]at i_
   refine Gn λw hS=>?_
   refine zA hS Xh kU (hr.mono fF) hx b8 (i:=0) rfl ?_
   refine Cc (QP gp H1 (((p.m.reqs.take i).filter (·.done)).foldl (λd r=>d.del r.id) p.d) p.m.reqs[i].id (by omega) hdo) ?_;clear hS
   rintro _ post ⟨e,H2,f',rfl,rfl⟩ w hS
   try simp only[app]at hS
   have hS:=iH.iK f' hS Xr
   have hS:=ij.iK (k:=p.k) f' hS Xr
   have hS:=eI.iK (xp:=xp) f' hS Xr
   refine Gp ?_
   refine⟨⟨i+1,H2,rfl,by omega,bw.le_trans fF f',?_⟩,by dsimp only;omega⟩
   rw[i_,List.foldl_append]
   exact SL.b_ hS (t:=.ob (jy gp H2 ((((p.m.reqs.take i).filter (·.done)).foldl (λd r=>d.del r.id) p.d).del p.m.reqs[i].id))::.pt mp (nO p.m wp rv) 212::.ob (iH wp H2 p.m.cF)::.pt pp (lW kp mp gp p.n) 286::.ob (ij kp xp lp rp H2 p.k)::.ob (eI H2 xp p.k.d)::.mem H2::F) Xi
  ·rw[if_neg (by simp[hq]),List.append_nil]at i_
   rw[<- i_]at hS
   refine Gp ?_
   exact⟨⟨i+1,H1,rfl,by omega,fF,aR hS⟩,by dsimp only;omega⟩
 rw[List.take_of_length_le (by omega)]at hS
 have rY:nP p.d p.m.reqs=(kQ p.m.reqs).foldl (λd r=>d.add r.id r.weight) ((p.m.reqs.filter (·.done)).foldl (λd r=>d.del r.id) p.d):=rfl
 have sE:=Az (p.m.reqs.filter (·.done)) p.d
 obtain⟨CP,EN⟩:=hp.row
 obtain⟨r0,tY,eFp,EM⟩:=hp.pE ho
 unfold ig.wM
 rw[rY]at CP tY EM ⊢
 generalize (p.m.reqs.filter (·.done)).foldl (λd r=>d.del r.id) p.d=d1 at hS CP tY EM sE ⊢
 refine⟨λus w=>∃(i:Nat) (H2:bw),us=[.int .i64 i]/\i<=p.m.reqs.length/\H.le H2/\SL W (.ob (jy gp H2 ((kQ (p.m.reqs.take i)).foldl (λd r=>d.add r.id r.weight) d1))::.pt mp (nO p.m wp rv) 212::.ob (iH wp H2 p.m.cF)::.pt pp (lW kp mp gp p.n) 286::.ob (ij kp xp lp rp H2 p.k)::.ob (eI H2 xp p.k.d)::.mem H2::F) w,
  λus _=>match us with|[.int _ i]=>(p.m.reqs.length-i).toNat|_=>0,⟨0,H1,rfl,by omega,fF,SL.b_ hS (t:=.ob (jy gp H1 d1)::.pt mp (nO p.m wp rv) 212::.ob (iH wp H1 p.m.cF)::.pt pp (lW kp mp gp p.n) 286::.ob (ij kp xp lp rp H1 p.k)::.ob (eI H1 xp p.k.d)::.mem H1::F) Xi⟩,?_⟩
 clear hS
 rintro v5 w ⟨i,H2,dR,hi,iS,hS⟩
 cases dR
 refine Gp ?_
 refine zn (hr.mono iS) ?_
 refine b9 (λh=>?_) (λh=>?_)
 ·have b8:i<p.m.reqs.length:=by omega
  have hx:p.m.reqs[i]?=some p.m.reqs[i]:=List.getElem?_eq_getElem b8
  have i_:=II b8
  have hle:=DG (kQ (p.m.reqs.take i)) d1
  have A0:=Db p.m.reqs i
  refine Gp ?_
  refine zA hS Xh kU (hr.mono iS) hx b8 (i:=6) rfl ?_
  refine Gp ?_
  refine zz (λhq=>?_) (λhq=>?_)
  ·rw[if_pos hq]at i_
   refine Gn λw hS=>?_
   refine zA hS Xh kU (hr.mono iS) hx b8 (i:=0) rfl ?_
   refine Gp ?_
   refine zA hS Xh kU (hr.mono iS) hx b8 (i:=2) rfl ?_
   refine Cc (QO gp H2 ((kQ (p.m.reqs.take i)).foldl (λd r=>d.add r.id r.weight) d1) p.m.reqs[i].id p.m.reqs[i].weight (by omega)) ?_;clear hS
   rintro _ post ⟨e,H3,jA,rfl,rfl⟩ w hS
   try simp only[app]at hS
   have hS:=iH.iK jA hS Xr
   have hS:=ij.iK (k:=p.k) jA hS Xr
   have hS:=eI.iK (xp:=xp) jA hS Xr
   refine Gp ?_
   refine⟨⟨i+1,H3,rfl,by omega,bw.le_trans iS jA,?_⟩,by dsimp only;omega⟩
   rw[i_,List.foldl_append]
   exact SL.b_ hS (t:=.ob (jy gp H3 (((kQ (p.m.reqs.take i)).foldl (λd r=>d.add r.id r.weight) d1).add p.m.reqs[i].id p.m.reqs[i].weight))::.pt mp (nO p.m wp rv) 212::.ob (iH wp H3 p.m.cF)::.pt pp (lW kp mp gp p.n) 286::.ob (ij kp xp lp rp H3 p.k)::.ob (eI H3 xp p.k.d)::.mem H3::F) Xi
  ·rw[if_neg (by simp[hq]),List.append_nil]at i_
   rw[<- i_]at hS
   refine Gp ?_
   exact⟨⟨i+1,H2,rfl,by omega,iS,aR hS⟩,by dsimp only;omega⟩
 rw[List.take_of_length_le (by omega)]at hS
 have wJ:=CP.len
 generalize (kQ p.m.reqs).foldl (λd r=>d.add r.id r.weight) d1=d2 at hS CP tY EM wJ ⊢
 refine Gp ?_
 refine Cc (qM gp H2 d2 CP (by omega)) ?_;clear hS
 rintro _ post ⟨rfl,rfl⟩ w hS
 try simp only[app]at hS
 have Hv:p.ug d2.next=({p with d:=d2.next.1}:ig).vM r0:=by unfold ig.ug;rw[tY]
 rw[Hv]
 unfold ig.vM
 have hS:=ij.iff.1 (SL.b_ hS (t:=.ob (ij kp xp lp rp H2 p.k)::.ob (jy gp H2 d2.next.1)::.pt mp (nO p.m wp rv) 212::.ob (iH wp H2 p.m.cF)::.pt pp (lW kp mp gp p.n) 286::.ob (eI H2 xp p.k.d)::.mem H2::F) Xi)
 refine Gp ?_
 refine Cg (zT lp xp p.k.g hk.g.ok (by omega)) λw hS=>?_
 have hS:=ij.put p.k hS Xp
 refine Cc (ZQ kp xp lp rp p.k H2 2 (c_ p.k.g.bW+1) hk (by omega) iP) ?_;clear hS
 rintro _ post ⟨H3,jA,rfl,rfl⟩ w hS
 try simp only[app]at hS
 have mM:=bw.le_trans iS jA
 have hS:=jy.iK jA hS Xr
 have hS:=iH.iK jA hS Xr
 refine Gp ?_
 generalize p.k.lV 2 (c_ p.k.g.bW+1)=y at hS ⊢
 obtain⟨k',a,e⟩:=y
 simp only at hS ⊢
 refine za (λhe=>?_) (λhe=>?_)
 ·rw[if_pos he]
  have hS:=iL.put p.m rv (hr.mono mM) hS Xp
  exact⟨_,⟨H3,mM,rfl,rfl⟩,aR hS⟩
 rw[if_neg he]
 obtain⟨j,hj,xM⟩:∃j:Nat,∃hj:j<p.m.reqs.length,d2.next.2=(j:Int)+1/\p.m.reqs[j]=r0:=by
  unfold vU at tY
  split at tY
  ·cases tY
  ·obtain⟨h1,h2⟩:=List.getElem?_eq_some_iff.1 tY
   exact⟨_,h1,by omega,h2⟩
 rw[xM.1]
 refine Gp ?_
 rw[show ((j:Int)+1-1)=(j:Int) by omega]
 refine zK hS Xh kU (hr.mono mM) (x:=r0) (by rw[<- xM.2];exact List.getElem?_eq_getElem hj) hj ?_
 refine Gb λxb w hS=>?_
 rw[show (j:Int)+1=r0.id by rw[EM];exact xM.1.symm]
 refine Cc (q8 wp p.m.cF H3 (c_ p.k.g.bW+1) r0.id r0.table r0.iJ) ?_;clear hS
 rintro _ post ⟨⟨q,rfl⟩,rfl⟩ w hS
 try simp only[app]at hS
 have hS:=iL.put (mp:=mp) {p.m with cF:=p.m.cF.oE (c_ p.k.g.bW+1) r0.id r0.table r0.iJ} rv (hr.mono mM) hS Xp
 exact⟨_,⟨H3,mM,rfl,rfl⟩,aR hS⟩
theorem qb(kp xp lp rp mp wp pp gp:Nat)(H:bw)(p:ig){N:Nat}(hp:p.Good N)(hN:N<=900000000)(iP:p.k.d.ops<=90000):SP 127 [eF pp] (FW kp xp lp rp mp wp pp gp H p) (JV kp xp lp rp mp wp pp gp H p.step):=by
 intro W F w hS;apply cRf;delta Kn aF bF dW ai;(try simp only[app]at hS)
 have hk:=hp.src
 have vF:=hp.reqs.1
 have aW4:=hp.n
 unfold ig.step
 obtain⟨rv,hr,hS⟩:=iL.iff.1 (SL.b_ hS (t:=.ob (iL mp wp H p.m)::.pt pp (lW kp mp gp p.n) 286::.ob (jy gp H p.d)::.ob (ij kp xp lp rp H p.k)::.ob (eI H xp p.k.d)::.mem H::F) Xi)
 refine Gp ?_
 have hS:=iL.put p.m rv hr hS Xp
 refine Cg (Zh kp mp wp pp gp p.n H p.m (by omega)) λw hS=>?_
 refine zz (λhq=>?_) (λhq=>?_)
 ·rw[if_pos hq]
  exact⟨_,⟨H,bw.le_refl H,rfl,rfl⟩,aR hS⟩
 rw[if_neg (by simp[hq])]
 obtain⟨rv,hr,hS⟩:=iL.iff.1 (SL.b_ hS (t:=.ob (iL mp wp H p.m)::.pt pp (lW kp mp gp p.n) 286::.ob (jy gp H p.d)::.ob (ij kp xp lp rp H p.k)::.ob (eI H xp p.k.d)::.mem H::F) Xi)
 obtain⟨wv,hw,hS⟩:=iH.iff.1 (SL.b_ hS (t:=.ob (iH wp H p.m.cF)::.pt mp (nO p.m wp rv) 212::.pt pp (lW kp mp gp p.n) 286::.ob (jy gp H p.d)::.ob (ij kp xp lp rp H p.k)::.ob (eI H xp p.k.d)::.mem H::F) Xi)
 refine b9 (λh0=>?_) (λh0=>?_)
 ·rw[if_pos h0]
  have hS:=iH.put p.m.cF wv hw hS Xr
  have hS:=iL.put (mp:=mp) p.m rv hr hS Xp
  have ho:kQ p.m.reqs≠[]:=by
   rcases of_decide_eq_true hq with h|h|h
   ·omega
   ·omega
   ·exact h.2
  refine Cc (q5 kp xp lp rp mp wp pp gp H p hp hN iP ho) ?_;clear hS
  rintro _ post ⟨H1,fF,rfl,rfl⟩ w hS
  (try simp only[app]at hS);refine Gp ?_
  exact⟨_,⟨H1,fF,rfl,rfl⟩,aR hS⟩
 rw[if_neg h0]
 refine b9 (λh1=>?_) (λh1=>?_)
 ·rw[if_pos h1]
  obtain⟨nn,CH⟩:∃nn:Nat,p.n=nn:=⟨p.n.toNat,by omega⟩
  refine Gn λw hS=>?_
  rw[CH]
  refine Cc (qa kp xp lp rp p.k H p.m.cF.table p.m.cF.after nn (λC hC=>by have:=hk.len C hC;omega)) ?_;clear hS
  rintro u post ⟨H1,fF,rfl⟩ w hS
  try simp only[app]at hS
  rw[<- CH]at hS ⊢
  obtain⟨H2,f',hR,hS⟩:=zu (H:=H1) (v:=u) hS Xp
  have kN:(p.k.s6 p.m.cF.table p.m.cF.after p.n).length<=64:=by
   unfold g_.s6 oy
   rw[List.length_take];omega
  generalize p.k.s6 p.m.cF.table p.m.cF.after p.n=C at hR kN ⊢
  have iS:=bw.le_trans fF f'
  have hS:=ij.iK (k:=p.k) f' hS Xr
  have hS:=eI.iK (xp:=xp) iS hS Xr
  have hS:=jy.iK iS hS Xr
  have hS:=iH.put (H:=H2) p.m.cF wv (hw.mono iS) hS Xr
  refine Cc (q7 wp p.m.cF H2 u C hR (by omega)) ?_;clear hS
  rintro _ post ⟨⟨q,rfl⟩,H3,jA,rfl⟩ w hS
  try simp only[app]at hS
  have hS:=ij.iK (k:=p.k) jA hS Xr
  have hS:=eI.iK (xp:=xp) jA hS Xr
  have hS:=jy.iK jA hS Xr
  have mM:=bw.le_trans iS jA
  have hS:=iL.put (mp:=mp) {p.m with cF:=p.m.cF.fill C} rv (hr.mono mM) hS Xp
  exact⟨_,⟨H3,mM,rfl,rfl⟩,aR hS⟩
 ·rw[if_neg h1]
  unfold ig.xL
  refine Gn λw hS=>?_
  refine Cc (ZQ kp xp lp rp p.k H 3 p.m.cF.mark hk (by omega) iP) ?_;clear hS
  rintro _ post ⟨H1,fF,rfl,rfl⟩ w hS
  try simp only[app]at hS
  have hS:=jy.iK fF hS Xr
  have hS:=iH.put (H:=H1) p.m.cF wv (hw.mono fF) hS Xr
  refine Gp ?_
  generalize p.k.lV 3 p.m.cF.mark=y at hS ⊢
  obtain⟨k',a,e⟩:=y
  simp only at hS ⊢
  refine za (λhe=>?_) (λhe=>?_)
  ·rw[if_pos he]
   have hS:=iL.put (mp:=mp) p.m rv (hr.mono fF) hS Xp
   exact⟨_,⟨H1,fF,rfl,rfl⟩,aR hS⟩
  rw[if_neg he]
  refine Cc (q9 wp p.m.cF H1) ?_;clear hS
  rintro _ post ⟨⟨q,rfl⟩,rfl⟩ w hS
  try simp only[app]at hS
  have hS:=iL.put (mp:=mp) {p.m with cF:=p.m.cF.shut} rv (hr.mono fF) hS Xp
  exact⟨_,⟨H1,fF,rfl,rfl⟩,aR hS⟩
theorem X4(a b:Row)(w:World):(Op.equal 52 (agg (iu a)) (agg (iu b))).run Tryz.prog w= .ok (decide (a=b)) w:=by
 refine Bn Tryz.underlying52 (by kernel_rfl) ?_
 obtain⟨k,v⟩:=a
 obtain⟨k',v'⟩:=b
 simp[iu,Op.eqFields,part,run_equalIn_int (h:=Tryz.underlying2),run_equalIn_int (h:=Tryz.underlying3),run_equalIn_bool' (h:=Tryz.underlying4),run_equalIn_string (h:=Tryz.underlying9),Result.andThen,toList_inj]
 by_cases h0:k=k'<;>by_cases h1:v=v'<;>simp[*]
theorem bWc(a b:Row):SP 80 [agg (iu a),agg (iu b)] [] (eW (.bool (decide (a=b))) []):=by
 intro W F w hS;apply dWc;unfold Ol;(try simp only[app]at hS)
 refine⟨_,rfl,zI hS ?_⟩
 clear hS;intro b1 w hS
 refine⟨_,rfl,zI hS ?_⟩
 clear hS;intro b2 w hS
 refine zL hS Xh rfl (zL hS Xh rfl (Qi (X4 a b w) ?_))
 (exact fw hS)
theorem bW6(H:bw)(u v:Value)(A B:List Row)(hu:fW H 2 u A.length (A.map iu).flatten)(hv:fW H 2 v B.length (B.map iu).flatten)(hn:A.length<=9223372036854775806):
  SP 26 [u,v] [.mem H] (eW (.bool (decide (A=B))) [.mem H]):=by
 intro W F w hS;apply dwz;unfold Mt;(try simp only[app]at hS)
 refine Cc (Dh jG rfl (λv0 v1 v2 w R h=>dWb v0 v1 v2 w R h) bWc H u v A B hu hv hn) ?_;clear hS
 rintro v post ⟨rfl,rfl⟩ w hS
 try simp only[app]at hS
 (exact fw hS)
def BD(X:Chunk)(v:Value)(n:Nat)(cells:List Value):Prop:=
 ∃a cap,v= .slice a n cap/\∀{W w:World} {l:List Chunk},SL W l w->Has X l->∀j u,j<n->cells[j]?=some u->∃b o,a=some ⟨b,o,none⟩/\w.cell? ⟨b,o+j,none⟩=some u
theorem fW.Ui{H:bw}{v:Value}{n:Nat}{cells:List Value}(h:fW H 1 v n cells):BD (.mem H) v n cells:=by
 obtain⟨_,a,cap,rfl,_,h4⟩:=h
 refine⟨a,cap,rfl,λhS hm j u hj hu=>?_⟩
 rcases h4 with rfl|⟨b,o,rfl,h6⟩
 ·omega
 ·exact⟨b,o,rfl,hS.Fe hm (h6 j u hu)⟩
section
variable {W w:World} {l:List Chunk}
theorem Q7{X:Chunk}{v:Value}{n:Nat}{cells:List Value}{K:Value->Prop}(h:BD X v n cells)(k:K (.int .i64 n)):zd v K:=by
 obtain⟨a,cap,rfl,_⟩:=h
 exact yo k
theorem UD{X:Chunk}{v u:Value}{n j:Nat}{k:IntKind}{cells:List Value}{K:Value->Prop}(hS:SL W l w)(hm:Has X l)(h:BD X v n cells)(hj:j<n)(hu:cells[j]?=some u)(hK:K u):
  ze 1 v (.int k (j:Int)) λp=>cI p w K:=by
 obtain⟨a,cap,rfl,h2⟩:=h
 obtain⟨b,o,rfl,h3⟩:=h2 hS hm j u hj hu
 refine zH hj ⟨_,u,rfl,?_,hK⟩
 rw[Nat.mul_one];exact h3
end
def OK(P:Program)(T:List Bool)(v0:Value)(v1:Value)(v2:Value)(w:World)(R:Value->World->Prop):Prop:=
 zd v0 λv9=>
 zd v1 λv11=>
 zc .neq v9 v11 λnS=>
 g9 nS
 (R (.bool false) w)
 (∃(I:List Value->World->Prop) (μ:List Value->World->Nat),I [(.int .i64 0)] w /\
 ∀(v7:Value) oJ,I [v7] oJ ->
 zd v0 λBr=>
 zc .lss v7 Br λu9=>
 g9 u9
 (zj oJ λrC=>
 ze 1 v0 v7 λv22=>
 cI v22 rC λv23=>
 ze 1 v1 v7 λv26=>
 cI v26 rC λv27=>
 zZ P T v2 [v23,v27] rC λv28 pG=>
 y0 v28 λv29=>
 g9 v29
 (R (.bool false) pG)
 (zc .add v7 (.int .i64 1) λwZ=>
 I [wZ] pG/\μ [wZ] pG<μ [v7] oJ))
 (R (.bool true) oJ))
theorem cwm{P:Program}{T:List Bool}{f g:FuncId}{α:Type}[DecidableEq α]{val:α->Value}(hT:T.getD g false=true)
  (vc:∀v0 v1 v2 w R,OK P T v0 v1 v2 w R->zV P f [v0,v1,v2] w R) (one:∀a b,Spec P g [val a,val b] [] (eW (.bool (decide (a=b))) []))
  (pre:List Chunk) (X Y:Chunk) (hX:∀F,Has X (app pre F)) (hY:∀F,Has Y (app pre F)) (u v:Value) (A B:List α) (hu:BD X u A.length (A.map val)) (hv:BD Y v B.length (B.map val)) (hA:A.length<=9223372036854775806) :
  Spec P f [u,v,.func (.func g) #[] #[]] pre (eW (.bool (decide (A=B))) pre):=by
 intro W F w hS;apply vc;unfold OK
 refine Q7 hu (Q7 hv ?_)
 refine b9 (λh=>?_) (λh=>?_)
 ·have:A≠B:=λe=>by subst e;exact h rfl
  simp only[this,decide_false]
  exact⟨_,⟨rfl,rfl⟩,hS⟩
 ·have hl:A.length=B.length:=by omega
  refine⟨λvs w=>∃k:Nat,vs=[.int .i64 k]/\k<=A.length/\A.take k=B.take k/\SL W (app pre F) w,λvs _=>match vs with|[.int _ k]=>(A.length-k).toNat|_=>0,⟨0,rfl,by omega,rfl,hS⟩,?_⟩
  clear hS
  rintro v7 w ⟨k,HZ,hk,ri,hS⟩
  cases HZ
  refine Q7 hu ?_
  refine b9 (λh=>?_) (λh=>?_)
  ·have rT:k<A.length:=by omega
   have ng:k<B.length:=by omega
   refine yK hS ?_
   clear hS;intro w hS
   refine UD hS (hX F) hu rT (u:=val A[k]) (by simp[rT]) ?_
   refine UD hS (hY F) hv ng (u:=val B[k]) (by simp[ng]) ?_
   refine ZX (args':=[val A[k],val B[k]]) hT (one A[k] B[k]) rfl hS .nil ?_
   clear hS
   rintro v post ⟨rfl,rfl⟩ w hS
   have hS:SL W (app pre F) w:=hS
   refine Gp ?_
   refine zz (λhe=>?_) (λhe=>?_)
   ·have:A≠B:=λe=>by subst e;simp at he
    simp only[this,decide_false]
    exact⟨_,⟨rfl,rfl⟩,hS⟩
   ·have q':=of_decide_eq_true he
    refine Gp ?_
    refine⟨⟨k+1,by simp,by omega,?_,hS⟩,by dsimp only;omega⟩
    rw[List.take_succ_eq_append_getElem rT,List.take_succ_eq_append_getElem ng,ri,q']
  ·have:k=A.length:=by omega
   subst this
   have:A=B:=by rw[List.take_length,hl,List.take_length]at ri;exact ri
   simp only[this,decide_true]
   exact⟨_,⟨rfl,rfl⟩,hS⟩
theorem XY(a b:iy)(w:World):(Op.equal 82 (agg (jE a)) (agg (jE b))).run Tryz.prog w= .ok (decide (a=b)) w:=by
 refine Bn Tryz.underlying82 (by kernel_rfl) ?_
 obtain⟨a1,a2,a3,a4⟩:=a
 obtain⟨b1,b2,b3,b4⟩:=b
 simp[jE,Op.eqFields,part,run_equalIn_int (h:=Tryz.underlying2),run_equalIn_int (h:=Tryz.underlying3),run_equalIn_bool' (h:=Tryz.underlying4),run_equalIn_string (h:=Tryz.underlying9),Result.andThen,toList_inj]
 by_cases h0:a1=b1<;>by_cases h1:a2=b2<;>by_cases h2:a3=b3<;>by_cases h3:a4=b4<;>simp[*]
theorem bR8(a b:iy):SP 165 [agg (jE a),agg (jE b)] [] (eW (.bool (decide (a=b))) []):=by
 intro W F w hS;apply cWg;unfold KY;(try simp only[app]at hS)
 refine zC hS λb1 w hS=>?_
 refine zC hS λb2 w hS=>?_
 refine zL hS Xh rfl (zL hS Xh rfl (Qi (XY a b w) ?_))
 (exact fw hS)
theorem bW2(H:bw)(u v:Value)(A B:List iy)(hu:fW H 4 u A.length (A.map jE).flatten)(hv:fW H 4 v B.length (B.map jE).flatten)(hn:A.length<=9223372036854775806):
  SP 73 [u,v] [.mem H] (eW (.bool (decide (A=B))) [.mem H]):=by
 intro W F w hS;apply dR6;unfold Of;(try simp only[app]at hS)
 refine Cc (Dh mP rfl (λv0 v1 v2 w R h=>cWf v0 v1 v2 w R h) bR8 H u v A B hu hv hn) ?_;clear hS
 rintro v post ⟨rfl,rfl⟩ w hS
 try simp only[app]at hS
 (exact fw hS)
theorem bWe(a b:ByteArray):SP 167 [.string a,.string b] [] (eW (.bool (decide (a=b))) []):=by
 intro W F w hS;apply cWi;unfold KZ;(try simp only[app]at hS)
 refine Gp ?_
 (exact fw hS)
theorem bW7(H:bw)(u v:Value)(A B:List ByteArray)(hu:fW H 1 u A.length (A.map Value.string))(hv:fW H 1 v B.length (B.map Value.string))(hn:A.length<=9223372036854775806):
  SP 74 [u,v] [.mem H] (eW (.bool (decide (A=B))) [.mem H]):=by
 intro W F w hS;apply dR7;unfold Og;(try simp only[app]at hS)
 refine Cc (cwm rfl (λv0 v1 v2 w R h=>cWh v0 v1 v2 w R h) bWe [.mem H] (.mem H) (.mem H) (λ_=>.hd) (λ_=>.hd) u v A B hu.Ui hv.Ui hn) ?_;clear hS
 rintro v post ⟨rfl,rfl⟩ w hS
 try simp only[app]at hS
 (exact fw hS)
theorem cF7(H:bw)(x y:mu)(t:gW)(hx:kS H x t)(hy:kS H y t)(h1:t.changes.length<=9223372036854775806)(h2:t.signals.length<=9223372036854775806):
  SP 24 [agg (iG x),agg (iG y)] [.mem H] (eW (.bool true) [.mem H]):=by
 intro W F w hS;apply dwh;delta Mb aF a_ cw;(try simp only[app]at hS)
 refine zC hS λb1 w hS=>?_
 refine zC hS λb2 w hS=>?_
 unfold iG at hS
 rw[hx.aI,hx.kind,hx.mark,hy.aI,hy.kind,hy.mark]at hS
 refine Gp ?_
 refine za (λ_=>?_) (λh=>absurd rfl h)
 refine Gp ?_
 refine za (λ_=>?_) (λh=>absurd rfl h)
 refine Gp ?_
 refine za (λ_=>?_) (λh=>absurd rfl h)
 refine Gp ?_
 refine Cg (bW2 H x.cv y.cv t.changes t.changes hx.cv hy.cv h1) λw hS=>?_
 refine za (λ_=>?_) (λh=>absurd rfl h)
 refine Gp ?_
 refine Cg (bW7 H x.sv y.sv t.signals t.signals hx.sv hy.sv h2) λw hS=>?_
 rw[decide_eq_true rfl]
 (exact fw hS)
def o6(y:Except Int gW):gW:=match y with
 | .error _=>⟨0,0,[],[],0⟩
 | .ok t=>t
def vT(y:Except Int gW):Int:=match y with
 | .error e=>e
 | .ok _=>0
theorem Vy(H:bw):kS H uq ⟨0,0,[],[],0⟩:=⟨rfl,rfl,rfl,fW.nil _ _,fW.nil _ _⟩
theorem ve.all{sp tp dp lp:Nat}{k:g_}{H:bw}{aI:Int}{r:Value}{post:List Chunk}(h:ve sp tp dp lp k H aI r post):∃x H',H.le H'/\r= .tuple #[agg (iG x),.int .i64 (vT (k.kf aI))]/\kS H' x (o6 (k.kf aI))/\post=[.ob (iC sp tp dp lp k),.mem H']:=by
 unfold ve at h
 cases hr:k.kf aI with
 | error e=>
  rw[hr]at h
  obtain⟨_,H',hh,rfl,rfl⟩:=h
  exact⟨uq,H',hh,rfl,Vy H',rfl⟩
 | ok t=>
  rw[hr]at h
  obtain⟨x,H',hh,rfl,hx,rfl⟩:=h
  exact⟨x,H',hh,rfl,hx,rfl⟩
theorem wg.all{kp xp lp rp:Nat}{k:g_}{H:bw}{aI:Int}{r:Value}{post:List Chunk}(h:wg kp xp lp rp k H aI r post):∃x H',H.le H'/\r= .tuple #[agg (iG x),.int .i64 (vT (k.kf aI))]/\kS H' x (o6 (k.kf aI))/\post=[.ob (ij kp xp lp rp H' k),.mem H']:=by
 unfold wg at h
 cases hr:k.kf aI with
 | error e=>
  rw[hr]at h
  obtain⟨_,H',hh,rfl,rfl⟩:=h
  exact⟨uq,H',hh,rfl,Vy H',rfl⟩
 | ok t=>
  rw[hr]at h
  obtain⟨x,H',hh,rfl,hx,rfl⟩:=h
  exact⟨x,H',hh,rfl,hx,rfl⟩
theorem b9v(k:g_)(aI:Int):(o6 (k.kf aI)).changes.length<=16/\(o6 (k.kf aI)).signals.length<=2:=by
 cases hr:k.kf aI with
 | error e=>exact⟨Nat.zero_le _,Nat.zero_le _⟩
 | ok t=>
  unfold g_.kf at hr
  split at hr
  ·cases hr
  ·have:=nB (Gx hr)
   exact⟨this.2.2.2.1,this.2.2.2.2.1⟩
def DV(s:ByteArray)(n:Nat):ByteArray:=s.extract 0 (min s.size n)
theorem qu(s:ByteArray)(n:Nat):SP 143 [.string s,.int .i64 n] [] (eW (.string (DV s n)) []):=by
 intro W F w hS;apply cRv;unfold KD;(try simp only[app]at hS)
 refine Gp ?_
 rw[show min (s.size:Int) (n:Int)=((min s.size n:Nat):Int) by omega]
 refine⟨s,0,min s.size n,rfl,⟨.i64,rfl⟩,rfl,Nat.zero_le _,Nat.min_le_left _ _,?_⟩
 (exact fw hS)
def mL(c:iy)(k:Nat):iy:=⟨md c.table k,if md c.key 31=30 then ((1+md c.key 1099511627776:Nat):Int) else ((1+md c.key 12:Nat):Int),c.gone,if c.gone then ⟨#[]⟩ else DV c.val 32⟩
theorem qs(c:iy)(k:Nat)(h1:0<k)(h2:k<=8):SP 60 [agg (jE c),.int .i64 k] [] (eW (agg (jE (mL c k))) []):=by
 intro W F w hS;apply dRv;delta N6 aF a_ aW dW ai dw;(try simp only[app]at hS)
 obtain⟨table,key,gone,val⟩:=c
 refine⟨_,rfl,zI hS ?_⟩
 clear hS;intro p w hS
 refine zI hS ?_
 clear hS;intro q w hS
 simp only[jE]at hS
 have eFi:=oa key 12 (by decide)
 have EI:=oa key 1099511627776 (by decide)
 have Hz:(1:Int)+(md key 12:Int)=((1+md key 12:Nat):Int):=by omega
 have hmf:(1:Int)+(md key 1099511627776:Int)=((1+md key 1099511627776:Nat):Int):=by omega
 refine⟨λus w=>∃x:Nat,us=[.pointer (some ⟨x,0,none⟩)]/\SL W (.pt x [.int .i64 (md table k:Nat),.int .i64 ((1+md key 12:Nat):Int),.bool gone,.string ⟨#[]⟩] 82::.pt q [.int .i64 0,.int .i64 0,.bool false,.string ⟨#[]⟩] 82::.pt p [.int .i64 table,.int .i64 key,.bool gone,.string val] 82::F) w,?_,?_⟩
 ·refine yK hS ?_
  clear hS;intro w hS
  refine Gp ?_
  refine⟨?_,?_⟩
  ·refine Cg (yI table k h1 (by omega)) λw hS=>?_
   refine⟨?_,?_⟩
   ·refine Cg (yj key 12 (by decide) (by decide)) λw hS=>?_;refine Gm λb w hS=>?_
    rw[Hz]at hS
    exact⟨_,rfl,aR hS⟩
   ·refine Gm λb w hS=>?_
    refine Cg (yj key 12 (by decide) (by decide)) λw hS=>?_
    rw[Hz]at hS
    exact⟨_,rfl,aR hS⟩
  ·refine Gm λb w hS=>?_
   refine Cg (yI table k h1 (by omega)) λw hS=>?_
   refine Cg (yj key 12 (by decide) (by decide)) λw hS=>?_
   rw[Hz]at hS
   exact⟨_,rfl,aR hS⟩
 ·clear hS
  rintro v5 w ⟨x,dR,hS⟩
  cases dR
  refine⟨λus w=>us=[]/\SL W (.pt x [.int .i64 (md table k:Nat),.int .i64 (mL ⟨table,key,gone,val⟩ k).key,.bool gone,.string ⟨#[]⟩] 82::.pt q [.int .i64 0,.int .i64 0,.bool false,.string ⟨#[]⟩] 82::.pt p [.int .i64 table,.int .i64 key,.bool gone,.string val] 82::F) w,?_,?_⟩
  ·refine Gp ?_
   refine Cg (yj key 31 (by decide) (by decide)) λw hS=>?_
   refine za (λh=>?_) (λh=>?_)
   ·have hk:(mL ⟨table,key,gone,val⟩ k).key=((1+md key 1099511627776:Nat):Int):=by unfold mL;simp only;rw[if_pos (by omega)]
    rw[hk]
    refine Gp ?_
    refine Cg (yj key 1099511627776 (by decide) (by decide)) λw hS=>?_
    rw[hmf]at hS
    exact aR hS
   ·have hk:(mL ⟨table,key,gone,val⟩ k).key=((1+md key 12:Nat):Int):=by unfold mL;simp only;rw[if_neg (by omega)]
    rw[hk]
    exact⟨rfl,aR hS⟩
  ·clear hS
   rintro w ⟨-,hS⟩
   refine Gp ?_
   cases gone with
   | true=>
    refine zt ?_
    refine Gn λw hS=>?_
    have e:jE (mL ⟨table,key,true,val⟩ k)=[.int .i64 (md table k:Nat),.int .i64 (mL ⟨table,key,true,val⟩ k).key,.bool true,.string ⟨#[]⟩]:=rfl
    rw[e]
    (exact fw hS)
   | false=>
    refine zw ?_
    refine Gp ?_
    refine Cg (qu val 32) λw hS=>?_
    have e:jE (mL ⟨table,key,false,val⟩ k)=[.int .i64 (md table k:Nat),.int .i64 (mL ⟨table,key,false,val⟩ k).key,.bool false,.string (DV val 32)]:=rfl
    rw[e]
    (exact fw hS)
theorem aik(c:iy)(z:List Value)(hz:z.length=4):lr (cW z 1) [(0,4,agg (jE c))]=some (jE c):=by
 simp[lr,cW,Value.cells,jE,hz]
theorem Yu(H:bw)(v:Value)(l:List iy)(k l4:Nat)(hv:fW H 4 v l.length (l.map jE).flatten)(h1:0<k)(h2:k<=8)(hm:l4<=1000)(hn:l.length<=140737488351232):
  SP 17 [v,.int .i64 k,.int .i64 l4] [.mem H] (λu post=>post=[.ob (bI u 82 4 ((l.take l4).map (mL · k)).length (((l.take l4).map (mL · k)).map jE).flatten),.mem H]):=by
 intro W F w hS;apply cWl;delta K2 aF ai dw bR;(try simp only[app]at hS)
 refine⟨λus w=>∃(m:Nat) (u:Value),us=[u,.int .i64 m]/\m<=l.length/\m<=l4/\SL W (.ob (bI u 82 4 m ((((l.take m).map (mL · k)).map jE).flatten))::.mem H::F) w,
  λus _=>match us with|[_,.int _ m]=>(l.length-m).toNat|_=>0,⟨0,_,rfl,by omega,by omega,bI.nil hS⟩,?_⟩
 clear hS
 rintro v7 v8 w ⟨m,u,dR,tU,HB,hS⟩
 cases dR
 have kX:∀w,(m=l.length\/m=l4)->SL W (.ob (bI v7 82 4 m ((((l.take m).map (mL · k)).map jE).flatten))::.mem H::F) w ->
   ∃post,(post=[.ob (bI v7 82 4 ((l.take l4).map (mL · k)).length (((l.take l4).map (mL · k)).map jE).flatten),.mem H])/\SL W (app post F) w:=λw he hS=>by
  have ht:l.take m=l.take l4:=by
   rcases he with rfl|rfl
   ·rw[List.take_length,List.take_of_length_le (by omega)]
   ·rfl
  have hl:m=((l.take l4).map (mL · k)).length:=by rw[<- ht,List.length_map,List.length_take];omega
  rw[ht,hl]at hS
  exact⟨_,rfl,hS⟩
 refine zn hv ?_
 refine Gp ?_
 refine za (λh=>?_) (λh=>kX w (.inl (by omega)) hS)
 refine Gp ?_
 refine za (λh3=>?_) (λh3=>kX w (.inr (by omega)) hS)
 have b8:m<l.length:=by omega
 refine zK hS Xh mP hv (x:=l[m]) (by simp[b8]) b8 ?_
 refine Cc (qs l[m] k h1 h2) ?_;clear hS
 rintro v26 post ⟨rfl,rfl⟩ w hS
 try simp only[app]at hS
 refine zD hS (aik (mL l[m] k) [.int .i64 0,.int .i64 0,.bool false,.string ⟨#[]⟩] rfl) ?_
 clear hS;intro b w hS
 refine zy (n:=m) (m:=1) hS Xr (lX (cs:=jE (mL l[m] k)) hS .hd rfl) rfl rfl (GF _) (by omega) (by omega) ?_
 clear hS;intro u' w hS
 refine Gp ?_
 have e:(l.take (m+1)).map (mL · k)=(l.take m).map (mL · k)++[mL l[m] k]:=by rw[List.take_succ_eq_append_getElem b8,List.map_append];rfl
 refine⟨⟨m+1,u',rfl,(by omega),(by omega),(by rw[e,D9];exact aR hS)⟩,(by dsimp only;omega)⟩
theorem YZ(H:bw)(v:Value)(l:List iy)(k l4:Nat)(hv:fW H 4 v l.length (l.map jE).flatten)(h1:0<k)(h2:k<=8)(hm:l4<=1000)(hn:l.length<=140737488351232):
  SP 17 [v,.int .i64 k,.int .i64 l4] [.mem H] (λu post=>∃H',H.le H'/\fW H' 4 u ((l.take l4).map (mL · k)).length (((l.take l4).map (mL · k)).map jE).flatten/\post=[.mem H']):=by
 intro W F w hS
 refine zV.mono (Yu H v l k l4 hv h1 h2 hm hn W F w hS) ?_
 rintro u w ⟨post,rfl,hS⟩
 have hS:SL W (_::.mem H::F) w:=hS
 obtain⟨H2,f',hR,hS⟩:=zu (H:=H) (v:=u) hS Xp
 exact⟨_,⟨H2,f',hR,rfl⟩,hS⟩
end Go.Proofs.YtfenmffiidchcaaGreat
