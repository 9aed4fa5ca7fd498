/- Part 16: words and walks under the laws of the whole. -/
import Derived.BigRegion
import Derived.Test.YtjnjhmkgfjikfaaDoorLv14
set_option linter.unusedVariables false
set_option linter.unusedSimpArgs false
set_option maxHeartbeats 4000000
set_option maxRecDepth 100000
namespace Go.Proofs.YtjnjhmkgfjikfaaDoor
open Go.RowKit
structure LdI (base gw gr gm:Nat) (rr:Scu.Replica) (m:Scu.Message) (A:Option Addr) (c:Nat) (ms:List Scu.Message) (w wr:World):Prop where
 work:WorkE wr base gw gr rr ms
 box:Blk wr gm 43 #[.int .i64 m.kind,.int .i64 m.from_,.int .i64 m.tq,.int .i64 m.view,.int .i64 m.normal,.int .i64 m.commit,.int .i64 m.n,.slice A m.log.length c]
 low:Below base w wr
def Scu.leadTake (r:Scu.Replica) (m:Scu.Message):Scu.Replica :=
 if r.kept.view < m.view\/r.kept.calm=false then
  Scu.fresh { r with kept:=⟨m.view,m.view,true,m.log,max m.commit (min r.kept.commit m.log.length)⟩ }
 else if r.kept.log.length < m.log.length then { r with kept:={ r.kept with log:=m.log } } else r
theorem zAn (r:Scu.Replica) (m:Scu.Message):(Scu.leadTake r m).me=r.me:=by unfold Scu.leadTake;split;rfl;split <;> rfl
theorem zGi (r:Scu.Replica) (m:Scu.Message):Scu.hearLead r m=({ Scu.leadTake r m with kept:={ (Scu.leadTake r m).kept with commit:=max (Scu.leadTake r m).kept.commit (min m.commit (Scu.leadTake r m).kept.log.length) } },
 [⟨2,r.me,m.from_,(Scu.leadTake r m).kept.view,0,0,(Scu.leadTake r m).kept.log.length,[]⟩]):=rfl
theorem zKe (w:World) (base gw gr:Nat) (r:Scu.Replica) (m:Scu.Message) (A:Option Addr) (c:Nat) (ms:List Scu.Message) (hW:WorkE w base gw gr r ms) (Ha:base<=w.heap.size) (h3:Rep3 r) (hx:LowStrs w base (.slice A m.log.length c) m.log) (Ko:m.from_≠r.me) (hm:(ms.length+4)*80<=R47) :
 Calls Tryd.prog 25 #[.pointer (some ⟨gw,0,none⟩),.agg #[.int .i64 m.kind,.int .i64 m.from_,.int .i64 m.tq,.int .i64 m.view,.int .i64 m.normal,.int .i64 m.commit,.int .i64 m.n,.slice A m.log.length c]] w fun e w'=>e=.returned (.tuple #[])/\WorkE w' base gw gr (Scu.hearLead r m).1 (ms ++ (Scu.hearLead r m).2)/\Below base w w':=by
 obtain ⟨lu,hv,wv,gv,nv,ov,css,hW⟩:=hW
 obtain ⟨Al,nl,cl,rfl⟩:=hW.own.is.log.form
 have Va:nl=r.kept.log.length:=by
  obtain ⟨A',c',e,_⟩:=hW.own.is.log.ex
  cases e
  rfl
 subst Va
 have HW:=mA hW
 have H3:=mA (mB h3 Ko)
 have HM:=mA hm
 have HX:=mA hx
 rw [zGi]
 obtain ⟨rr,Hs⟩:=mJ (Scu.leadTake r m)
 rw [<- Hs]
 have Hq:=mA Hs
 clear hW h3 hm hx Hs Ko
 go_enter Tryd.func25,Tryd.ntmps25
 go_upto_region 1 with fail
 obtain ⟨Wd,Ke⟩:=mJ (w.alloc (.cells (mN m A m.log.length c) 43))
 rw [<- Ke]
 have Kf:Below w.heap.size w Wd:=by rw [Ke];exact zAa _ _
 have hk:Blk Wd w.heap.size 43 (mN m A m.log.length c):=by rw [Ke];exact Blk.new _ _ _
 have Ho:=mA (mB (HW.out.below Kf) (mB hk (Kf.mono Ha)))
 have Kp:base<=Wd.heap.size:=mD Ha Kf.size
 have Vg:=mA (show ov.ownBlock≠some w.heap.size from fun e=>by have:=(HW.out.out.row.lt _ e).2;omega)
 clear Ke Kf hk
 have d0:=cz1 Ho.out.1.wb
 have dl:=Ho.out.1.wb.lt
 have dm:=Ho.out.1.rb.lt
 have dk:=Ho.out.2.1.lt
 by_cases Hp:r.kept.view < m.view\/r.kept.calm=false
 ·have Hs:rr=Scu.fresh { r with kept:=⟨m.view,m.view,true,m.log,max m.commit (min r.kept.commit m.log.length)⟩ }:=by
   rw [Hq.out]
   unfold Scu.leadTake
   rw [if_pos Hp]
  have Hw:=mA Hs
  have Ka:=mA Hp
  clear Hs Hp
  go_upto_region 2 with fail
  obtain ⟨-,d1,-,d3⟩:=cz4 Ho.out.1.rb
  obtain ⟨-,-,-,k3⟩:=cz4 Ho.out.2.1
  go_cut [11] from 12 (fun b wx=>b=.bool true/\Below Wd.heap.size Wd wx)
  case first =>
   by_cases hv:r.kept.view < m.view
   ·have Kb:decide (r.kept.view < m.view)=true:=by simpa using hv
    clear hv
    go_wp2_with fail
    go_region
    go_wp2_with fail
    go_meet
    exact ⟨rfl,(mG _ _).drew⟩
   have Kq:r.kept.calm=false:=Ka.out.resolve_left hv
   rw [Kq] at d3
   have Kb:decide (r.kept.view < m.view)=false:=by simpa using hv
   clear hv Kq
   go_wp2_with fail
   go_region
   go_wp2_with fail
   go_meet
   exact ⟨rfl,(mG _ _).drew⟩
  case rest =>
   obtain ⟨rfl,Kr⟩:=hcut
   have HQ:=mA Kr
   clear Kr d0 d1 d3 k3 dl dm dk
   obtain ⟨wq,Hx⟩:=mJ (wc)
   rw [<- Hx] at HQ ⊢
   clear Hx
   have Hy:=Ho.out.1.below HQ.out
   have Kc:=Ho.out.2.1.same HQ.out
   have Hu:Below base w wq:=Ho.out.2.2.trans (HQ.out.mono Kp)
   have Ki:base<=wq.heap.size:=mD Ha Hu.size
   obtain ⟨-,d1,d2,d3,d4,d5⟩:=cz6 Hy.rb
   obtain ⟨-,-,-,k3,-,k5,-,k7⟩:=cz8 Kc
   have dz:=Hy.rb.frozen
   have dm:=Hy.rb.lt
   have dk:=Kc.lt
   have n1:w.heap.size≠gr:=zAv Kc Hy.rb (by decide)
   have Kd:=mA (mB Hy (mB Kc Hu))
   clear Hy Kc Hu
   obtain ⟨rp,Ks⟩:=mJ ({ r with kept:=⟨m.view,m.view,true,m.log,max m.commit (min r.kept.commit m.log.length)⟩ })
   have Kj:=mA Ks
   clear Ks
   go_upto_region 3 with fail
   go_cut [4] from 26 (fun kp wx=>kp=.pointer (some ⟨gr,1,none⟩)/\LdI base gw gr w.heap.size rp m A c ms w wx)
   case first =>
    obtain ⟨S,Hk⟩:∃ S:World->Prop,S=fun w'=>w'.cell? ⟨w.heap.size,3,none⟩=some (.int .i64 m.view)/\w'.cell? ⟨w.heap.size,5,none⟩=some (.int .i64 m.commit)/\w'.cell? ⟨w.heap.size,7,none⟩=some (.slice A m.log.length c)/\w'.cell? ⟨gr,5,none⟩=some (.int .i64 r.kept.commit):=⟨_,rfl⟩
    have Hl:S wq.drew:=by rw [Hk];exact ⟨k3,k5,k7,d5⟩
    go_wp2_with fail
    refine zGb S 21 (by kernel_rfl) (fun He=>?_)
    change wpAnyE _ _ _ _ _ _ _ _ _ wq.drew
    refine zAe (i:=0) 8 (v:=?_) rfl (by kernel_rfl) (by kernel_rfl) (by kernel_rfl) (by kernel_rfl) (fun _ _ _ h=>h) (Or.inl ⟨by rfl,?_⟩) He Hl (fun He=>?_)
    rotate_left
    ·(intro wv Hb;rw [Hk] at Hb;obtain ⟨s1,s2,s3,s4⟩:=Hb;go_simp;(try with_reducible rfl))
    (try simp only [Act.put,zp1,zp2,zp3])
    refine zAe (i:=1) 8 (v:=?_) rfl (by kernel_rfl) (by kernel_rfl) (by kernel_rfl) (by kernel_rfl) (fun _ _ _ h=>h) (Or.inl ⟨by rfl,?_⟩) He Hl (fun He=>?_)
    rotate_left
    ·(intro wv Hb;rw [Hk] at Hb;obtain ⟨s1,s2,s3,s4⟩:=Hb;go_simp;(try with_reducible rfl))
    (try simp only [Act.put,zp1,zp2,zp3])
    refine zAe (i:=2) 8 (v:=?_) rfl (by kernel_rfl) (by kernel_rfl) (by kernel_rfl) (by kernel_rfl) (fun _ _ _ h=>h) (Or.inl ⟨by rfl,?_⟩) He Hl (fun He=>?_)
    rotate_left
    ·(intro wv Hb;rw [Hk] at Hb;obtain ⟨s1,s2,s3,s4⟩:=Hb;go_simp;(try with_reducible rfl))
    (try simp only [Act.put,zp1,zp2,zp3])
    refine zAe (i:=3) 8 (v:=?_) rfl (by kernel_rfl) (by kernel_rfl) (by kernel_rfl) (by kernel_rfl) (fun _ _ _ h=>h) (Or.inl ⟨by rfl,?_⟩) He Hl (fun He=>?_)
    rotate_left
    ·(intro wv Hb;rw [Hk] at Hb;obtain ⟨s1,s2,s3,s4⟩:=Hb;go_simp;(try with_reducible rfl))
    (try simp only [Act.put,zp1,zp2,zp3])
    refine zAe (i:=4) 8 (v:=?_) rfl (by kernel_rfl) (by kernel_rfl) (by kernel_rfl) (by kernel_rfl) (fun _ _ _ h=>h) (Or.inl ⟨by rfl,?_⟩) He Hl (fun He=>?_)
    rotate_left
    ·(intro wv Hb;rw [Hk] at Hb;obtain ⟨s1,s2,s3,s4⟩:=Hb;go_simp;(try with_reducible rfl))
    (try simp only [Act.put,zp1,zp2,zp3])
    refine zAe (i:=5) 8 (v:=?_) rfl (by kernel_rfl) (by kernel_rfl) (by kernel_rfl) (by kernel_rfl) (fun _ _ _ h=>h) (Or.inl ⟨by rfl,?_⟩) He Hl (fun He=>?_)
    rotate_left
    ·(intro wv Hb;rw [Hk] at Hb;obtain ⟨s1,s2,s3,s4⟩:=Hb;go_simp;(try with_reducible rfl))
    (try simp only [Act.put,zp1,zp2,zp3])
    refine zAe (i:=6) 8 (v:=?_) rfl (by kernel_rfl) (by kernel_rfl) (by kernel_rfl) (by kernel_rfl) (fun _ _ _ h=>h) (Or.inl ⟨by rfl,?_⟩) He Hl (fun He=>?_)
    rotate_left
    ·(intro wv Hb;rw [Hk] at Hb;obtain ⟨s1,s2,s3,s4⟩:=Hb;go_simp;(try with_reducible rfl))
    (try simp only [Act.put,zp1,zp2,zp3])
    refine zAe (i:=8) 8 (v:=?_) rfl (by kernel_rfl) (by kernel_rfl) (by kernel_rfl) (by kernel_rfl) (fun _ _ _ h=>h) (Or.inl ⟨by rfl,?_⟩) He Hl (fun He=>?_)
    rotate_left
    ·(intro wv Hb;rw [Hk] at Hb;obtain ⟨s1,s2,s3,s4⟩:=Hb;go_simp;(try with_reducible rfl))
    (try simp only [Act.put,zp1,zp2,zp3])
    refine zAe (i:=9) 8 (v:=?_) rfl (by kernel_rfl) (by kernel_rfl) (by kernel_rfl) (by kernel_rfl) (fun _ _ _ h=>h) (Or.inl ⟨by rfl,?_⟩) He Hl (fun He=>?_)
    rotate_left
    ·(intro wv Hb;rw [Hk] at Hb;obtain ⟨s1,s2,s3,s4⟩:=Hb;go_simp;(try with_reducible rfl))
    (try simp only [Act.put,zp1,zp2,zp3])
    refine zAe (i:=10) 8 (v:=?_) rfl (by kernel_rfl) (by kernel_rfl) (by kernel_rfl) (by kernel_rfl) (fun _ _ _ h=>h) (Or.inl ⟨by rfl,?_⟩) He Hl (fun He=>?_)
    rotate_left
    ·(intro wv Hb;rw [Hk] at Hb;obtain ⟨s1,s2,s3,s4⟩:=Hb;go_simp;(try with_reducible rfl))
    (try simp only [Act.put,zp1,zp2,zp3])
    refine zAe (i:=11) 8 (v:=?_) rfl (by kernel_rfl) (by kernel_rfl) (by kernel_rfl) (by kernel_rfl) (fun _ _ _ h=>h) (Or.inl ⟨by rfl,?_⟩) He Hl (fun He=>?_)
    rotate_left
    ·(intro wv Hb;rw [Hk] at Hb;obtain ⟨s1,s2,s3,s4⟩:=Hb;go_simp;(try with_reducible rfl))
    (try simp only [Act.put,zp1,zp2,zp3])
    refine zAe (i:=12) 8 (v:=?_) rfl (by kernel_rfl) (by kernel_rfl) (by kernel_rfl) (by kernel_rfl) (fun _ _ _ h=>h) (Or.inl ⟨by rfl,?_⟩) He Hl (fun He=>?_)
    rotate_left
    ·(intro wv Hb;rw [Hk] at Hb;obtain ⟨s1,s2,s3,s4⟩:=Hb;go_simp;(try with_reducible rfl))
    (try simp only [Act.put,zp1,zp2,zp3])
    refine zAe (i:=13) 8 (v:=?_) rfl (by kernel_rfl) (by kernel_rfl) (by kernel_rfl) (by kernel_rfl) (fun _ _ _ h=>h) (Or.inl ⟨by rfl,?_⟩) He Hl (fun He=>?_)
    rotate_left
    ·(intro wv Hb;rw [Hk] at Hb;obtain ⟨s1,s2,s3,s4⟩:=Hb;go_simp;(try with_reducible rfl))
    (try simp only [Act.put,zp1,zp2,zp3])
    refine zAe (i:=14) 8 (v:=?_) rfl (by kernel_rfl) (by kernel_rfl) (by kernel_rfl) (by kernel_rfl) (fun _ _ _ h=>h) (Or.inl ⟨by rfl,?_⟩) He Hl (fun He=>?_)
    rotate_left
    ·(intro wv Hb;rw [Hk] at Hb;obtain ⟨s1,s2,s3,s4⟩:=Hb;go_simp;(try with_reducible rfl))
    (try simp only [Act.put,zp1,zp2,zp3])
    refine zAe (i:=15) 8 (v:=?_) rfl (by kernel_rfl) (by kernel_rfl) (by kernel_rfl) (by kernel_rfl) (fun _ _ _ h=>h) (Or.inl ⟨by rfl,?_⟩) He Hl (fun He=>?_)
    rotate_left
    ·(intro wv Hb;rw [Hk] at Hb;obtain ⟨s1,s2,s3,s4⟩:=Hb;go_simp;(try with_reducible rfl))
    (try simp only [Act.put,zp1,zp2,zp3])
    refine zAe (i:=16) 8 (v:=?_) rfl (by kernel_rfl) (by kernel_rfl) (by kernel_rfl) (by kernel_rfl) (fun _ _ _ h=>h) (Or.inl ⟨by rfl,?_⟩) He Hl (fun He=>?_)
    rotate_left
    ·(intro wv Hb;rw [Hk] at Hb;obtain ⟨s1,s2,s3,s4⟩:=Hb;go_simp;(try with_reducible rfl))
    (try simp only [Act.put,zp1,zp2,zp3])
    refine zAe (i:=17) 8 (v:=?_) rfl (by kernel_rfl) (by kernel_rfl) (by kernel_rfl) (by kernel_rfl) (fun _ _ _ h=>h) (Or.inl ⟨by rfl,?_⟩) He Hl (fun He=>?_)
    rotate_left
    ·(intro wv Hb;rw [Hk] at Hb;obtain ⟨s1,s2,s3,s4⟩:=Hb;go_simp;(try with_reducible rfl))
    (try simp only [Act.put,zp1,zp2,zp3])
    refine zAe (i:=18) 8 (v:=?_) rfl (by kernel_rfl) (by kernel_rfl) (by kernel_rfl) (by kernel_rfl) (fun _ _ _ h=>h) (Or.inl ⟨by rfl,?_⟩) He Hl (fun He=>?_)
    rotate_left
    ·(intro wv Hb;rw [Hk] at Hb;obtain ⟨s1,s2,s3,s4⟩:=Hb;go_simp;(try with_reducible rfl))
    (try simp only [Act.put,zp1,zp2,zp3])
    refine alE 7 (by kernel_rfl) (wpOp_step (o:=_) rfl fun KS Kt=>?_)
    go_simp
    refine (zAo _ m.log _ base (((HX.out.keep Kd.out.2.2).is Ki).drewN 1)).mono ?_;rintro en x1 ⟨⟨v1,rfl,hu⟩,k1'⟩
    have nn1:Below wq.heap.size wq x1:=(below_drewN (mG _ _) 1).trans k1'
    have M1:=mA nn1
    obtain ⟨Au,cu,rfl,_,_,_,_⟩:=zAk hu
    have HU:=mA hu
    have e1:=cW nn1 dm d1
    have e2:=cW nn1 dm d2
    have e3:=cW nn1 dm d3
    have e4:=cW nn1 dm d4
    have e5:=cW nn1 dm d5
    have ez:=(Kd.out.1.below nn1).rb.frozen
    have b3:=cW nn1 dk k3
    have b5:=cW nn1 dk k5
    have b7:=cW nn1 dk k7
    have Hl:S x1:=by rw [Hk];exact ⟨b3,b5,b7,e5⟩
    clear nn1 hu k1'
    refine Kt _ _ ⟨.inr Hl,?_⟩
    have He:=He.set (i:=7) (by rw [<- List.contains_iff_mem];kernel_rfl)
    (try simp only [Act.put,zp1,zp2,zp3])
    refine zAe (i:=19) 8 (v:=?_) rfl (by kernel_rfl) (by kernel_rfl) (by kernel_rfl) (by kernel_rfl) (fun _ _ _ h=>h) (Or.inl ⟨by rfl,?_⟩) He Hl (fun He=>?_)
    rotate_left
    ·(intro wv Hb;rw [Hk] at Hb;obtain ⟨s1,s2,s3,s4⟩:=Hb;go_simp;(try with_reducible rfl))
    (try simp only [Act.put,zp1,zp2,zp3])
    refine zAe (i:=20) 8 (v:=?_) rfl (by kernel_rfl) (by kernel_rfl) (by kernel_rfl) (by kernel_rfl) (fun _ _ _ h=>h) (Or.inl ⟨by rfl,?_⟩) He Hl (fun He=>?_)
    rotate_left
    ·(intro wv Hb;rw [Hk] at Hb;obtain ⟨s1,s2,s3,s4⟩:=Hb;go_simp;(try with_reducible rfl))
    (try simp only [Act.put,zp1,zp2,zp3])
    refine alE 21 (by kernel_rfl) (wpOp_step (o:=_) rfl fun KT Ku=>?_)
    go_simp
    refine Ku _ _ ⟨.inl rfl,zGa (by kernel_rfl) ?_ _⟩
    clear Ku Kt Hl Hk He
    have Kv:∀ Wc,Wc=((((x1.setCell ⟨gr,1,none⟩ (.int .i64 m.view)).setCell ⟨gr,2,none⟩ (.int .i64 m.view)).setCell ⟨gr,3,none⟩ (.bool true)).setCell ⟨gr,4,none⟩ (.slice Au m.log.length cu)).setCell ⟨gr,5,none⟩ (.int .i64 (max m.commit (min r.kept.commit (m.log.length:Int))))->LdI base gw gr w.heap.size rp m A c ms w Wc:=by
     intro Wc Vb
     have Ht:=Kd.out.1.below M1.out
     have Kw:OwnStrs x1 base (.slice Au m.log.length cu) m.log:=⟨zAh HU.out Ki,HX.out.len,HX.out.each⟩
     have Kk:=((Ht.set_view m.view).set_normal m.view).set_calm true
     have Kx:Same [9] 0 x1 (((x1.setCell ⟨gr,1,none⟩ (.int .i64 m.view)).setCell ⟨gr,2,none⟩ (.int .i64 m.view)).setCell ⟨gr,3,none⟩ (.bool true)) :=
      ((Same.set_ Ht.rb (mE _) (by decide) 1 _).trans (Same.set_ (Ht.set_view m.view).rb (mE _) (by decide) 2 _)).trans (Same.set_ ((Ht.set_view m.view).set_normal m.view).rb (mE _) (by decide) 3 _)
     have Vc:=(Kk.set_log (Kw.same Kx)).set_commit (max m.commit (min r.kept.commit (m.log.length:Int)))
     rw [Kj.out,Vb]
     exact ⟨Vc.e,zAd (Kd.out.2.1.same M1.out) (Same.set5 (Ts:=[43]) Ht.rb (by decide) _ _ _ _ _ _ _ _ _ _) (by simp),(Kd.out.2.2.trans (M1.out.mono Ki)).trans (((((Ht.low 1 _).trans ((Ht.set_view m.view).low 2 _)).trans (((Ht.set_view m.view).set_normal m.view).low 3 _)).trans (Kk.low 4 _)).trans ((Kk.set_log (Kw.same Kx)).low 5 _))⟩
    have Vd:=mA Kv
    clear Kv
    go_wp2_with fail
    all_goals
     go_meet
     refine ⟨rfl,Vd.out _ ?_⟩
     first | rfl | (have hz:∀ q:Int,q=max m.commit (min r.kept.commit (m.log.length:Int))->Value.int .i64 q=Value.int .i64 (max m.commit (min r.kept.commit (m.log.length:Int))):=(fun q e=>by rw [e]);congr 1;apply hz;(repeat' split) <;> omega)
   case rest =>
    obtain ⟨rfl,hI⟩:=hcut
    have HI:=mA hI
    clear hI d1 d2 d3 d4 d5 k3 k5 k7 dz dm dk n1
    obtain ⟨wp,Ky⟩:=mJ (wc)
    rw [<- Ky] at HI ⊢
    clear Ky
    obtain ⟨lu5,Hr,wv5,gv5,nv5,ov5,css5,Kz⟩:=HI.out.work
    have Ve:=mA Kz
    clear Kz
    have Vf:base<=wp.heap.size:=mD Ha HI.out.low.size
    have Kg:Rep3 rp:=by rw [Kj.out];exact H3.out.1
    go_wp2_with fail
    refine (zGh wp base gw gr rp _ _ _ _ _ _ ms _ Ve.out Vf Kg.1 Kg.2.1 Kg.2.2.2.1).mono ?_;rintro en x2 ⟨rfl,⟨gv',Kl⟩,Km,Kn⟩
    go_upto_region 7 with fail
    obtain ⟨wt,Hv⟩:=mJ (x2)
    rw [<- Hv] at Kl Km Kn ⊢
    clear Hv
    have HT:=mA (show LdI base gw gr w.heap.size rr m A c ms w wt from by
     rw [Hw.out,<- Kj.out]
     exact ⟨Kl.e,zAd HI.out.box Kn (by simp),HI.out.low.trans Km⟩)
    clear Kl Km Kn Kg
    obtain ⟨lu5,Hr,wv5,gv5,nv5,ov5,css5,Hj⟩:=HT.out.work
    obtain ⟨A5,c5,rfl,_,_⟩:=Hj.own.is.log.ex
    have d0:=cz1 Hj.wb
    obtain ⟨-,-,-,-,d4,d5⟩:=cz6 Hj.rb
    obtain ⟨-,k1,-,-,-,k5⟩:=cz6 HT.out.box
    have dz:=Hj.rb.frozen
    have dl:=Hj.wb.lt
    have dm:=Hj.rb.lt
    have dk:=HT.out.box.lt
    have Hf:=mA Hj
    clear Hj
    by_cases hq:(rr.kept.log.length:Int) < m.commit
    ·by_cases hh:rr.kept.commit < (rr.kept.log.length:Int)
     ·have Hg:max rr.kept.commit (min m.commit (rr.kept.log.length:Int))=(rr.kept.log.length:Int):=by omega
      have Hh:=mA Hg
      clear Hg
      go_wp2_with fail
      go_region
      (try (have Hm:¬ ((rr.kept.log.length:Int) < m.commit):=by omega
            simp only [Hm,↓reduceIte]))
      (try (have Hc:¬ (rr.kept.commit < m.commit):=by omega
            simp only [Hc,↓reduceIte]))
      (try (have Hc:¬ (rr.kept.commit < (rr.kept.log.length:Int)):=by omega
            simp only [Hc,↓reduceIte]))
      (try rw [Hh.out])
      obtain ⟨Wu,Hd⟩:=mJ ((wt.setCell ⟨gr,5,none⟩ (.int .i64 ((rr.kept.log.length:Int)))).drew)
      rw [<- Hd]
      have HU:=mA (show Work Wu base gw gr { rr with kept:={ rr.kept with commit:=(rr.kept.log.length:Int) } } (.slice A5 rr.kept.log.length c5) Hr wv5 gv5 nv5 ov5 ms css5/\Blk Wu w.heap.size 43 (mN m A m.log.length c)/\Below base w Wu from by
       rw [Hd]
       exact ⟨(Hf.out.set_commit ((rr.kept.log.length:Int))).below (mG _ _).drew,Blk.drew (zAd HT.out.box (Same.set_ (Ts:=[43]) Hf.out.rb (mE _) (by decide) 5 _) (by simp)),(HT.out.low.trans (Hf.out.low 5 _)).drew⟩)
      have Hn:base<=Wu.heap.size:=mD Ha HU.out.2.2.size
      clear Hd d0 d4 d5 k1 k5 dz dl dm dk hq hh
      obtain ⟨-,-,-,-,d4⟩:=cz5 HU.out.1.rb
      obtain ⟨-,k1⟩:=cz2 HU.out.2.1
      have dm:=HU.out.1.rb.lt
      have dk:=HU.out.2.1.lt
      go_wp2_with fail
      go_still_tail 9,(by kernel_rfl)
      change wpList _ _ _ _ _ Wu.drew
      go_wp2_with (go_at_call 40;refine (zBz none 0 0 { Scu.msg0 with kind:=2,n:=rr.kept.log.length } m.from_ _ base gw gr _ ms (HU.out.1.below (mG _ _).drew).e Hn IsStrs.nil_ (mD (Nat.mul_le_mul_right 80 (by omega)) HM.out) _ rfl).mono ?_;rintro en w5 ⟨rfl,hk,h5⟩;have HK:=mA (mB hk (HU.out.2.2.trans ((mG base Wu).drew.trans h5)));clear hk h5)
      go_wp2
      go_end0
      refine ⟨rfl,?_,HK.out.2⟩
      have hk:=HK.out.1
      have Hi:rr.me=r.me:=by rw [Hq.out];exact zAn r m
      rw [if_neg (show ¬ m.from_=rr.me from by rw [Hi];exact H3.out.2)] at hk
      rw [Hh.out,<- Hi]
      exact hk
     have Hg:max rr.kept.commit (min m.commit (rr.kept.log.length:Int))=rr.kept.commit:=by omega
     have Hh:=mA Hg
     clear Hg
     go_wp2_with fail
     go_region
     (try (have Hm:¬ ((rr.kept.log.length:Int) < m.commit):=by omega
           simp only [Hm,↓reduceIte]))
     (try (have Hc:¬ (rr.kept.commit < m.commit):=by omega
           simp only [Hc,↓reduceIte]))
     (try (have Hc:¬ (rr.kept.commit < (rr.kept.log.length:Int)):=by omega
           simp only [Hc,↓reduceIte]))
     (try rw [Hh.out])
     obtain ⟨Wu,Hd⟩:=mJ ((wt.setCell ⟨gr,5,none⟩ (.int .i64 (rr.kept.commit))).drew)
     rw [<- Hd]
     have HU:=mA (show Work Wu base gw gr { rr with kept:={ rr.kept with commit:=rr.kept.commit } } (.slice A5 rr.kept.log.length c5) Hr wv5 gv5 nv5 ov5 ms css5/\Blk Wu w.heap.size 43 (mN m A m.log.length c)/\Below base w Wu from by
      rw [Hd]
      exact ⟨(Hf.out.set_commit (rr.kept.commit)).below (mG _ _).drew,Blk.drew (zAd HT.out.box (Same.set_ (Ts:=[43]) Hf.out.rb (mE _) (by decide) 5 _) (by simp)),(HT.out.low.trans (Hf.out.low 5 _)).drew⟩)
     have Hn:base<=Wu.heap.size:=mD Ha HU.out.2.2.size
     clear Hd d0 d4 d5 k1 k5 dz dl dm dk hq hh
     obtain ⟨-,-,-,-,d4⟩:=cz5 HU.out.1.rb
     obtain ⟨-,k1⟩:=cz2 HU.out.2.1
     have dm:=HU.out.1.rb.lt
     have dk:=HU.out.2.1.lt
     go_wp2_with fail
     go_still_tail 9,(by kernel_rfl)
     change wpList _ _ _ _ _ Wu.drew
     go_wp2_with (go_at_call 40;refine (zBz none 0 0 { Scu.msg0 with kind:=2,n:=rr.kept.log.length } m.from_ _ base gw gr _ ms (HU.out.1.below (mG _ _).drew).e Hn IsStrs.nil_ (mD (Nat.mul_le_mul_right 80 (by omega)) HM.out) _ rfl).mono ?_;rintro en w5 ⟨rfl,hk,h5⟩;have HK:=mA (mB hk (HU.out.2.2.trans ((mG base Wu).drew.trans h5)));clear hk h5)
     go_wp2
     go_end0
     refine ⟨rfl,?_,HK.out.2⟩
     have hk:=HK.out.1
     have Hi:rr.me=r.me:=by rw [Hq.out];exact zAn r m
     rw [if_neg (show ¬ m.from_=rr.me from by rw [Hi];exact H3.out.2)] at hk
     rw [Hh.out,<- Hi]
     exact hk
    by_cases hh:rr.kept.commit < m.commit
    ·have Hg:max rr.kept.commit (min m.commit (rr.kept.log.length:Int))=m.commit:=by omega
     have Hh:=mA Hg
     clear Hg
     go_wp2_with fail
     go_region
     (try (have Hm:¬ ((rr.kept.log.length:Int) < m.commit):=by omega
           simp only [Hm,↓reduceIte]))
     (try (have Hc:¬ (rr.kept.commit < m.commit):=by omega
           simp only [Hc,↓reduceIte]))
     (try (have Hc:¬ (rr.kept.commit < (rr.kept.log.length:Int)):=by omega
           simp only [Hc,↓reduceIte]))
     (try rw [Hh.out])
     obtain ⟨Wu,Hd⟩:=mJ ((wt.setCell ⟨gr,5,none⟩ (.int .i64 (m.commit))).drew)
     rw [<- Hd]
     have HU:=mA (show Work Wu base gw gr { rr with kept:={ rr.kept with commit:=m.commit } } (.slice A5 rr.kept.log.length c5) Hr wv5 gv5 nv5 ov5 ms css5/\Blk Wu w.heap.size 43 (mN m A m.log.length c)/\Below base w Wu from by
      rw [Hd]
      exact ⟨(Hf.out.set_commit (m.commit)).below (mG _ _).drew,Blk.drew (zAd HT.out.box (Same.set_ (Ts:=[43]) Hf.out.rb (mE _) (by decide) 5 _) (by simp)),(HT.out.low.trans (Hf.out.low 5 _)).drew⟩)
     have Hn:base<=Wu.heap.size:=mD Ha HU.out.2.2.size
     clear Hd d0 d4 d5 k1 k5 dz dl dm dk hq hh
     obtain ⟨-,-,-,-,d4⟩:=cz5 HU.out.1.rb
     obtain ⟨-,k1⟩:=cz2 HU.out.2.1
     have dm:=HU.out.1.rb.lt
     have dk:=HU.out.2.1.lt
     go_wp2_with fail
     go_still_tail 9,(by kernel_rfl)
     change wpList _ _ _ _ _ Wu.drew
     go_wp2_with (go_at_call 40;refine (zBz none 0 0 { Scu.msg0 with kind:=2,n:=rr.kept.log.length } m.from_ _ base gw gr _ ms (HU.out.1.below (mG _ _).drew).e Hn IsStrs.nil_ (mD (Nat.mul_le_mul_right 80 (by omega)) HM.out) _ rfl).mono ?_;rintro en w5 ⟨rfl,hk,h5⟩;have HK:=mA (mB hk (HU.out.2.2.trans ((mG base Wu).drew.trans h5)));clear hk h5)
     go_wp2
     go_end0
     refine ⟨rfl,?_,HK.out.2⟩
     have hk:=HK.out.1
     have Hi:rr.me=r.me:=by rw [Hq.out];exact zAn r m
     rw [if_neg (show ¬ m.from_=rr.me from by rw [Hi];exact H3.out.2)] at hk
     rw [Hh.out,<- Hi]
     exact hk
    have Hg:max rr.kept.commit (min m.commit (rr.kept.log.length:Int))=rr.kept.commit:=by omega
    have Hh:=mA Hg
    clear Hg
    go_wp2_with fail
    go_region
    (try (have Hm:¬ ((rr.kept.log.length:Int) < m.commit):=by omega
          simp only [Hm,↓reduceIte]))
    (try (have Hc:¬ (rr.kept.commit < m.commit):=by omega
          simp only [Hc,↓reduceIte]))
    (try (have Hc:¬ (rr.kept.commit < (rr.kept.log.length:Int)):=by omega
          simp only [Hc,↓reduceIte]))
    (try rw [Hh.out])
    obtain ⟨Wu,Hd⟩:=mJ ((wt.setCell ⟨gr,5,none⟩ (.int .i64 (rr.kept.commit))).drew)
    rw [<- Hd]
    have HU:=mA (show Work Wu base gw gr { rr with kept:={ rr.kept with commit:=rr.kept.commit } } (.slice A5 rr.kept.log.length c5) Hr wv5 gv5 nv5 ov5 ms css5/\Blk Wu w.heap.size 43 (mN m A m.log.length c)/\Below base w Wu from by
     rw [Hd]
     exact ⟨(Hf.out.set_commit (rr.kept.commit)).below (mG _ _).drew,Blk.drew (zAd HT.out.box (Same.set_ (Ts:=[43]) Hf.out.rb (mE _) (by decide) 5 _) (by simp)),(HT.out.low.trans (Hf.out.low 5 _)).drew⟩)
    have Hn:base<=Wu.heap.size:=mD Ha HU.out.2.2.size
    clear Hd d0 d4 d5 k1 k5 dz dl dm dk hq hh
    obtain ⟨-,-,-,-,d4⟩:=cz5 HU.out.1.rb
    obtain ⟨-,k1⟩:=cz2 HU.out.2.1
    have dm:=HU.out.1.rb.lt
    have dk:=HU.out.2.1.lt
    go_wp2_with fail
    go_still_tail 9,(by kernel_rfl)
    change wpList _ _ _ _ _ Wu.drew
    go_wp2_with (go_at_call 40;refine (zBz none 0 0 { Scu.msg0 with kind:=2,n:=rr.kept.log.length } m.from_ _ base gw gr _ ms (HU.out.1.below (mG _ _).drew).e Hn IsStrs.nil_ (mD (Nat.mul_le_mul_right 80 (by omega)) HM.out) _ rfl).mono ?_;rintro en w5 ⟨rfl,hk,h5⟩;have HK:=mA (mB hk (HU.out.2.2.trans ((mG base Wu).drew.trans h5)));clear hk h5)
    go_wp2
    go_end0
    refine ⟨rfl,?_,HK.out.2⟩
    have hk:=HK.out.1
    have Hi:rr.me=r.me:=by rw [Hq.out];exact zAn r m
    rw [if_neg (show ¬ m.from_=rr.me from by rw [Hi];exact H3.out.2)] at hk
    rw [Hh.out,<- Hi]
    exact hk
 have hv:¬ r.kept.view < m.view:=fun h=>Hp (.inl h)
 have Hz:r.kept.calm=true:=by cases h:r.kept.calm;exact absurd (.inr h) Hp;rfl
 clear Hp
 by_cases hl:(r.kept.log.length:Int) < (m.log.length:Int)
 ·have Hs:rr = { r with kept:={ r.kept with log:=m.log } }:=by
   rw [Hq.out]
   unfold Scu.leadTake
   rw [if_neg (by simp [hv,Hz]),if_pos (by omega)]
  obtain ⟨-,d1,-,d3,d4⟩:=cz5 Ho.out.1.rb
  obtain ⟨-,-,-,k3,-,-,-,k7⟩:=cz8 Ho.out.2.1
  rw [Hz] at d3
  have Kb:decide (r.kept.view < m.view)=false:=by simpa using hv
  have Hw:=mA Hs
  clear hv Hs
  go_upto_region 2 with fail
  go_wp2_with fail
  go_region
  go_wp2_with fail
  go_region
  go_upto_region 6 with fail
  obtain ⟨wq,Hx⟩:=mJ (Wd.drew.drew)
  rw [<- Hx]
  have HQ:=mA (show Below Wd.heap.size Wd wq from by rw [Hx];exact (mG _ _).drew.drew)
  clear Hx hl Kb Hz
  obtain ⟨-,-,-,-,-,-,-,k7⟩:=cz8 (Ho.out.2.1.same HQ.out)
  have Hu:Below base w wq:=Ho.out.2.2.trans (HQ.out.mono Kp)
  go_wp2_with fail
  refine (zAo _ m.log _ base ((HX.out.keep Hu).is (mD Ha Hu.size))).mono ?_;rintro en x1 ⟨⟨v1,rfl,hu⟩,h1⟩
  obtain ⟨Au,cu,rfl,_,_,_,_⟩:=zAk hu
  have nn1:Below Wd.heap.size Wd x1:=HQ.out.trans (h1.mono HQ.out.size)
  have e4:=cW nn1 dm d4
  have ez:=(Ho.out.1.below nn1).rb.frozen
  have el:gr < x1.heap.size:=mF dm nn1.size
  have Kh:=mA (mB (show OwnStrs x1 base (.slice Au m.log.length cu) m.log from ⟨zAh hu (mD Ha Hu.size),HX.out.len,HX.out.each⟩) (mB nn1 (Hu.trans (h1.mono (mD Ha Hu.size)))))
  clear hu h1 nn1 Hu
  go_upto_region 7 with fail
  obtain ⟨wt,Hv⟩:=mJ (x1.setCell ⟨gr,4,none⟩ (.slice Au m.log.length cu))
  rw [<- Hv]
  have HT:=mA (show LdI base gw gr w.heap.size rr m A c ms w wt from by
   have Ht:=Ho.out.1.below Kh.out.2.1
   rw [Hv,Hw.out]
   exact ⟨(Ht.set_log Kh.out.1).e,zAd (Ho.out.2.1.same Kh.out.2.1) (Same.set_ (Ts:=[43]) Ht.rb (mE _) (by decide) 4 _) (by simp),Kh.out.2.2.trans (Ht.low 4 _)⟩)
  clear Hv d0 d1 d3 d4 k3 k7 dl dm dk e4 ez el
  obtain ⟨lu5,Hr,wv5,gv5,nv5,ov5,css5,Hj⟩:=HT.out.work
  obtain ⟨A5,c5,rfl,_,_⟩:=Hj.own.is.log.ex
  have d0:=cz1 Hj.wb
  obtain ⟨-,-,-,-,d4,d5⟩:=cz6 Hj.rb
  obtain ⟨-,k1,-,-,-,k5⟩:=cz6 HT.out.box
  have dz:=Hj.rb.frozen
  have dl:=Hj.wb.lt
  have dm:=Hj.rb.lt
  have dk:=HT.out.box.lt
  have Hf:=mA Hj
  clear Hj
  by_cases hq:(rr.kept.log.length:Int) < m.commit
  ·by_cases hh:rr.kept.commit < (rr.kept.log.length:Int)
   ·have Hg:max rr.kept.commit (min m.commit (rr.kept.log.length:Int))=(rr.kept.log.length:Int):=by omega
    have Hh:=mA Hg
    clear Hg
    go_wp2_with fail
    go_region
    (try (have Hm:¬ ((rr.kept.log.length:Int) < m.commit):=by omega
          simp only [Hm,↓reduceIte]))
    (try (have Hc:¬ (rr.kept.commit < m.commit):=by omega
          simp only [Hc,↓reduceIte]))
    (try (have Hc:¬ (rr.kept.commit < (rr.kept.log.length:Int)):=by omega
          simp only [Hc,↓reduceIte]))
    (try rw [Hh.out])
    obtain ⟨Wu,Hd⟩:=mJ ((wt.setCell ⟨gr,5,none⟩ (.int .i64 ((rr.kept.log.length:Int)))).drew)
    rw [<- Hd]
    have HU:=mA (show Work Wu base gw gr { rr with kept:={ rr.kept with commit:=(rr.kept.log.length:Int) } } (.slice A5 rr.kept.log.length c5) Hr wv5 gv5 nv5 ov5 ms css5/\Blk Wu w.heap.size 43 (mN m A m.log.length c)/\Below base w Wu from by
     rw [Hd]
     exact ⟨(Hf.out.set_commit ((rr.kept.log.length:Int))).below (mG _ _).drew,Blk.drew (zAd HT.out.box (Same.set_ (Ts:=[43]) Hf.out.rb (mE _) (by decide) 5 _) (by simp)),(HT.out.low.trans (Hf.out.low 5 _)).drew⟩)
    have Hn:base<=Wu.heap.size:=mD Ha HU.out.2.2.size
    clear Hd d0 d4 d5 k1 k5 dz dl dm dk hq hh
    obtain ⟨-,-,-,-,d4⟩:=cz5 HU.out.1.rb
    obtain ⟨-,k1⟩:=cz2 HU.out.2.1
    have dm:=HU.out.1.rb.lt
    have dk:=HU.out.2.1.lt
    go_wp2_with fail
    go_still_tail 9,(by kernel_rfl)
    change wpList _ _ _ _ _ Wu.drew
    go_wp2_with (go_at_call 40;refine (zBz none 0 0 { Scu.msg0 with kind:=2,n:=rr.kept.log.length } m.from_ _ base gw gr _ ms (HU.out.1.below (mG _ _).drew).e Hn IsStrs.nil_ (mD (Nat.mul_le_mul_right 80 (by omega)) HM.out) _ rfl).mono ?_;rintro en w5 ⟨rfl,hk,h5⟩;have HK:=mA (mB hk (HU.out.2.2.trans ((mG base Wu).drew.trans h5)));clear hk h5)
    go_wp2
    go_end0
    refine ⟨rfl,?_,HK.out.2⟩
    have hk:=HK.out.1
    have Hi:rr.me=r.me:=by rw [Hq.out];exact zAn r m
    rw [if_neg (show ¬ m.from_=rr.me from by rw [Hi];exact H3.out.2)] at hk
    rw [Hh.out,<- Hi]
    exact hk
   have Hg:max rr.kept.commit (min m.commit (rr.kept.log.length:Int))=rr.kept.commit:=by omega
   have Hh:=mA Hg
   clear Hg
   go_wp2_with fail
   go_region
   (try (have Hm:¬ ((rr.kept.log.length:Int) < m.commit):=by omega
         simp only [Hm,↓reduceIte]))
   (try (have Hc:¬ (rr.kept.commit < m.commit):=by omega
         simp only [Hc,↓reduceIte]))
   (try (have Hc:¬ (rr.kept.commit < (rr.kept.log.length:Int)):=by omega
         simp only [Hc,↓reduceIte]))
   (try rw [Hh.out])
   obtain ⟨Wu,Hd⟩:=mJ ((wt.setCell ⟨gr,5,none⟩ (.int .i64 (rr.kept.commit))).drew)
   rw [<- Hd]
   have HU:=mA (show Work Wu base gw gr { rr with kept:={ rr.kept with commit:=rr.kept.commit } } (.slice A5 rr.kept.log.length c5) Hr wv5 gv5 nv5 ov5 ms css5/\Blk Wu w.heap.size 43 (mN m A m.log.length c)/\Below base w Wu from by
    rw [Hd]
    exact ⟨(Hf.out.set_commit (rr.kept.commit)).below (mG _ _).drew,Blk.drew (zAd HT.out.box (Same.set_ (Ts:=[43]) Hf.out.rb (mE _) (by decide) 5 _) (by simp)),(HT.out.low.trans (Hf.out.low 5 _)).drew⟩)
   have Hn:base<=Wu.heap.size:=mD Ha HU.out.2.2.size
   clear Hd d0 d4 d5 k1 k5 dz dl dm dk hq hh
   obtain ⟨-,-,-,-,d4⟩:=cz5 HU.out.1.rb
   obtain ⟨-,k1⟩:=cz2 HU.out.2.1
   have dm:=HU.out.1.rb.lt
   have dk:=HU.out.2.1.lt
   go_wp2_with fail
   go_still_tail 9,(by kernel_rfl)
   change wpList _ _ _ _ _ Wu.drew
   go_wp2_with (go_at_call 40;refine (zBz none 0 0 { Scu.msg0 with kind:=2,n:=rr.kept.log.length } m.from_ _ base gw gr _ ms (HU.out.1.below (mG _ _).drew).e Hn IsStrs.nil_ (mD (Nat.mul_le_mul_right 80 (by omega)) HM.out) _ rfl).mono ?_;rintro en w5 ⟨rfl,hk,h5⟩;have HK:=mA (mB hk (HU.out.2.2.trans ((mG base Wu).drew.trans h5)));clear hk h5)
   go_wp2
   go_end0
   refine ⟨rfl,?_,HK.out.2⟩
   have hk:=HK.out.1
   have Hi:rr.me=r.me:=by rw [Hq.out];exact zAn r m
   rw [if_neg (show ¬ m.from_=rr.me from by rw [Hi];exact H3.out.2)] at hk
   rw [Hh.out,<- Hi]
   exact hk
  by_cases hh:rr.kept.commit < m.commit
  ·have Hg:max rr.kept.commit (min m.commit (rr.kept.log.length:Int))=m.commit:=by omega
   have Hh:=mA Hg
   clear Hg
   go_wp2_with fail
   go_region
   (try (have Hm:¬ ((rr.kept.log.length:Int) < m.commit):=by omega
         simp only [Hm,↓reduceIte]))
   (try (have Hc:¬ (rr.kept.commit < m.commit):=by omega
         simp only [Hc,↓reduceIte]))
   (try (have Hc:¬ (rr.kept.commit < (rr.kept.log.length:Int)):=by omega
         simp only [Hc,↓reduceIte]))
   (try rw [Hh.out])
   obtain ⟨Wu,Hd⟩:=mJ ((wt.setCell ⟨gr,5,none⟩ (.int .i64 (m.commit))).drew)
   rw [<- Hd]
   have HU:=mA (show Work Wu base gw gr { rr with kept:={ rr.kept with commit:=m.commit } } (.slice A5 rr.kept.log.length c5) Hr wv5 gv5 nv5 ov5 ms css5/\Blk Wu w.heap.size 43 (mN m A m.log.length c)/\Below base w Wu from by
    rw [Hd]
    exact ⟨(Hf.out.set_commit (m.commit)).below (mG _ _).drew,Blk.drew (zAd HT.out.box (Same.set_ (Ts:=[43]) Hf.out.rb (mE _) (by decide) 5 _) (by simp)),(HT.out.low.trans (Hf.out.low 5 _)).drew⟩)
   have Hn:base<=Wu.heap.size:=mD Ha HU.out.2.2.size
   clear Hd d0 d4 d5 k1 k5 dz dl dm dk hq hh
   obtain ⟨-,-,-,-,d4⟩:=cz5 HU.out.1.rb
   obtain ⟨-,k1⟩:=cz2 HU.out.2.1
   have dm:=HU.out.1.rb.lt
   have dk:=HU.out.2.1.lt
   go_wp2_with fail
   go_still_tail 9,(by kernel_rfl)
   change wpList _ _ _ _ _ Wu.drew
   go_wp2_with (go_at_call 40;refine (zBz none 0 0 { Scu.msg0 with kind:=2,n:=rr.kept.log.length } m.from_ _ base gw gr _ ms (HU.out.1.below (mG _ _).drew).e Hn IsStrs.nil_ (mD (Nat.mul_le_mul_right 80 (by omega)) HM.out) _ rfl).mono ?_;rintro en w5 ⟨rfl,hk,h5⟩;have HK:=mA (mB hk (HU.out.2.2.trans ((mG base Wu).drew.trans h5)));clear hk h5)
   go_wp2
   go_end0
   refine ⟨rfl,?_,HK.out.2⟩
   have hk:=HK.out.1
   have Hi:rr.me=r.me:=by rw [Hq.out];exact zAn r m
   rw [if_neg (show ¬ m.from_=rr.me from by rw [Hi];exact H3.out.2)] at hk
   rw [Hh.out,<- Hi]
   exact hk
  have Hg:max rr.kept.commit (min m.commit (rr.kept.log.length:Int))=rr.kept.commit:=by omega
  have Hh:=mA Hg
  clear Hg
  go_wp2_with fail
  go_region
  (try (have Hm:¬ ((rr.kept.log.length:Int) < m.commit):=by omega
        simp only [Hm,↓reduceIte]))
  (try (have Hc:¬ (rr.kept.commit < m.commit):=by omega
        simp only [Hc,↓reduceIte]))
  (try (have Hc:¬ (rr.kept.commit < (rr.kept.log.length:Int)):=by omega
        simp only [Hc,↓reduceIte]))
  (try rw [Hh.out])
  obtain ⟨Wu,Hd⟩:=mJ ((wt.setCell ⟨gr,5,none⟩ (.int .i64 (rr.kept.commit))).drew)
  rw [<- Hd]
  have HU:=mA (show Work Wu base gw gr { rr with kept:={ rr.kept with commit:=rr.kept.commit } } (.slice A5 rr.kept.log.length c5) Hr wv5 gv5 nv5 ov5 ms css5/\Blk Wu w.heap.size 43 (mN m A m.log.length c)/\Below base w Wu from by
   rw [Hd]
   exact ⟨(Hf.out.set_commit (rr.kept.commit)).below (mG _ _).drew,Blk.drew (zAd HT.out.box (Same.set_ (Ts:=[43]) Hf.out.rb (mE _) (by decide) 5 _) (by simp)),(HT.out.low.trans (Hf.out.low 5 _)).drew⟩)
  have Hn:base<=Wu.heap.size:=mD Ha HU.out.2.2.size
  clear Hd d0 d4 d5 k1 k5 dz dl dm dk hq hh
  obtain ⟨-,-,-,-,d4⟩:=cz5 HU.out.1.rb
  obtain ⟨-,k1⟩:=cz2 HU.out.2.1
  have dm:=HU.out.1.rb.lt
  have dk:=HU.out.2.1.lt
  go_wp2_with fail
  go_still_tail 9,(by kernel_rfl)
  change wpList _ _ _ _ _ Wu.drew
  go_wp2_with (go_at_call 40;refine (zBz none 0 0 { Scu.msg0 with kind:=2,n:=rr.kept.log.length } m.from_ _ base gw gr _ ms (HU.out.1.below (mG _ _).drew).e Hn IsStrs.nil_ (mD (Nat.mul_le_mul_right 80 (by omega)) HM.out) _ rfl).mono ?_;rintro en w5 ⟨rfl,hk,h5⟩;have HK:=mA (mB hk (HU.out.2.2.trans ((mG base Wu).drew.trans h5)));clear hk h5)
  go_wp2
  go_end0
  refine ⟨rfl,?_,HK.out.2⟩
  have hk:=HK.out.1
  have Hi:rr.me=r.me:=by rw [Hq.out];exact zAn r m
  rw [if_neg (show ¬ m.from_=rr.me from by rw [Hi];exact H3.out.2)] at hk
  rw [Hh.out,<- Hi]
  exact hk
 have Hs:rr=r:=by
  rw [Hq.out]
  unfold Scu.leadTake
  rw [if_neg (by simp [hv,Hz]),if_neg (by omega)]
 obtain ⟨-,d1,-,d3,d4⟩:=cz5 Ho.out.1.rb
 obtain ⟨-,-,-,k3,-,-,-,k7⟩:=cz8 Ho.out.2.1
 rw [Hz] at d3
 have Kb:decide (r.kept.view < m.view)=false:=by simpa using hv
 clear hv
 go_upto_region 2 with fail
 go_wp2_with fail
 go_region
 go_wp2_with fail
 go_region
 go_upto_region 7 with fail
 obtain ⟨wt,Hv⟩:=mJ (Wd.drew.drew)
 rw [<- Hv]
 have HT:=mA (show LdI base gw gr w.heap.size rr m A c ms w wt from by rw [Hv,Hs];exact ⟨(Ho.out.1.below (mG _ _).drew.drew).e,Ho.out.2.1,Ho.out.2.2.drew.drew⟩)
 clear Hv Hs d0 d1 d3 d4 k3 k7 dl dm dk hl Hz Kb
 obtain ⟨lu5,Hr,wv5,gv5,nv5,ov5,css5,Hj⟩:=HT.out.work
 obtain ⟨A5,c5,rfl,_,_⟩:=Hj.own.is.log.ex
 have d0:=cz1 Hj.wb
 obtain ⟨-,-,-,-,d4,d5⟩:=cz6 Hj.rb
 obtain ⟨-,k1,-,-,-,k5⟩:=cz6 HT.out.box
 have dz:=Hj.rb.frozen
 have dl:=Hj.wb.lt
 have dm:=Hj.rb.lt
 have dk:=HT.out.box.lt
 have Hf:=mA Hj
 clear Hj
 by_cases hq:(rr.kept.log.length:Int) < m.commit
 ·by_cases hh:rr.kept.commit < (rr.kept.log.length:Int)
  ·have Hg:max rr.kept.commit (min m.commit (rr.kept.log.length:Int))=(rr.kept.log.length:Int):=by omega
   have Hh:=mA Hg
   clear Hg
   go_wp2_with fail
   go_region
   (try (have Hm:¬ ((rr.kept.log.length:Int) < m.commit):=by omega
         simp only [Hm,↓reduceIte]))
   (try (have Hc:¬ (rr.kept.commit < m.commit):=by omega
         simp only [Hc,↓reduceIte]))
   (try (have Hc:¬ (rr.kept.commit < (rr.kept.log.length:Int)):=by omega
         simp only [Hc,↓reduceIte]))
   (try rw [Hh.out])
   obtain ⟨Wu,Hd⟩:=mJ ((wt.setCell ⟨gr,5,none⟩ (.int .i64 ((rr.kept.log.length:Int)))).drew)
   rw [<- Hd]
   have HU:=mA (show Work Wu base gw gr { rr with kept:={ rr.kept with commit:=(rr.kept.log.length:Int) } } (.slice A5 rr.kept.log.length c5) Hr wv5 gv5 nv5 ov5 ms css5/\Blk Wu w.heap.size 43 (mN m A m.log.length c)/\Below base w Wu from by
    rw [Hd]
    exact ⟨(Hf.out.set_commit ((rr.kept.log.length:Int))).below (mG _ _).drew,Blk.drew (zAd HT.out.box (Same.set_ (Ts:=[43]) Hf.out.rb (mE _) (by decide) 5 _) (by simp)),(HT.out.low.trans (Hf.out.low 5 _)).drew⟩)
   have Hn:base<=Wu.heap.size:=mD Ha HU.out.2.2.size
   clear Hd d0 d4 d5 k1 k5 dz dl dm dk hq hh
   obtain ⟨-,-,-,-,d4⟩:=cz5 HU.out.1.rb
   obtain ⟨-,k1⟩:=cz2 HU.out.2.1
   have dm:=HU.out.1.rb.lt
   have dk:=HU.out.2.1.lt
   go_wp2_with fail
   go_still_tail 9,(by kernel_rfl)
   change wpList _ _ _ _ _ Wu.drew
   go_wp2_with (go_at_call 40;refine (zBz none 0 0 { Scu.msg0 with kind:=2,n:=rr.kept.log.length } m.from_ _ base gw gr _ ms (HU.out.1.below (mG _ _).drew).e Hn IsStrs.nil_ (mD (Nat.mul_le_mul_right 80 (by omega)) HM.out) _ rfl).mono ?_;rintro en w5 ⟨rfl,hk,h5⟩;have HK:=mA (mB hk (HU.out.2.2.trans ((mG base Wu).drew.trans h5)));clear hk h5)
   go_wp2
   go_end0
   refine ⟨rfl,?_,HK.out.2⟩
   have hk:=HK.out.1
   have Hi:rr.me=r.me:=by rw [Hq.out];exact zAn r m
   rw [if_neg (show ¬ m.from_=rr.me from by rw [Hi];exact H3.out.2)] at hk
   rw [Hh.out,<- Hi]
   exact hk
  have Hg:max rr.kept.commit (min m.commit (rr.kept.log.length:Int))=rr.kept.commit:=by omega
  have Hh:=mA Hg
  clear Hg
  go_wp2_with fail
  go_region
  (try (have Hm:¬ ((rr.kept.log.length:Int) < m.commit):=by omega
        simp only [Hm,↓reduceIte]))
  (try (have Hc:¬ (rr.kept.commit < m.commit):=by omega
        simp only [Hc,↓reduceIte]))
  (try (have Hc:¬ (rr.kept.commit < (rr.kept.log.length:Int)):=by omega
        simp only [Hc,↓reduceIte]))
  (try rw [Hh.out])
  obtain ⟨Wu,Hd⟩:=mJ ((wt.setCell ⟨gr,5,none⟩ (.int .i64 (rr.kept.commit))).drew)
  rw [<- Hd]
  have HU:=mA (show Work Wu base gw gr { rr with kept:={ rr.kept with commit:=rr.kept.commit } } (.slice A5 rr.kept.log.length c5) Hr wv5 gv5 nv5 ov5 ms css5/\Blk Wu w.heap.size 43 (mN m A m.log.length c)/\Below base w Wu from by
   rw [Hd]
   exact ⟨(Hf.out.set_commit (rr.kept.commit)).below (mG _ _).drew,Blk.drew (zAd HT.out.box (Same.set_ (Ts:=[43]) Hf.out.rb (mE _) (by decide) 5 _) (by simp)),(HT.out.low.trans (Hf.out.low 5 _)).drew⟩)
  have Hn:base<=Wu.heap.size:=mD Ha HU.out.2.2.size
  clear Hd d0 d4 d5 k1 k5 dz dl dm dk hq hh
  obtain ⟨-,-,-,-,d4⟩:=cz5 HU.out.1.rb
  obtain ⟨-,k1⟩:=cz2 HU.out.2.1
  have dm:=HU.out.1.rb.lt
  have dk:=HU.out.2.1.lt
  go_wp2_with fail
  go_still_tail 9,(by kernel_rfl)
  change wpList _ _ _ _ _ Wu.drew
  go_wp2_with (go_at_call 40;refine (zBz none 0 0 { Scu.msg0 with kind:=2,n:=rr.kept.log.length } m.from_ _ base gw gr _ ms (HU.out.1.below (mG _ _).drew).e Hn IsStrs.nil_ (mD (Nat.mul_le_mul_right 80 (by omega)) HM.out) _ rfl).mono ?_;rintro en w5 ⟨rfl,hk,h5⟩;have HK:=mA (mB hk (HU.out.2.2.trans ((mG base Wu).drew.trans h5)));clear hk h5)
  go_wp2
  go_end0
  refine ⟨rfl,?_,HK.out.2⟩
  have hk:=HK.out.1
  have Hi:rr.me=r.me:=by rw [Hq.out];exact zAn r m
  rw [if_neg (show ¬ m.from_=rr.me from by rw [Hi];exact H3.out.2)] at hk
  rw [Hh.out,<- Hi]
  exact hk
 by_cases hh:rr.kept.commit < m.commit
 ·have Hg:max rr.kept.commit (min m.commit (rr.kept.log.length:Int))=m.commit:=by omega
  have Hh:=mA Hg
  clear Hg
  go_wp2_with fail
  go_region
  (try (have Hm:¬ ((rr.kept.log.length:Int) < m.commit):=by omega
        simp only [Hm,↓reduceIte]))
  (try (have Hc:¬ (rr.kept.commit < m.commit):=by omega
        simp only [Hc,↓reduceIte]))
  (try (have Hc:¬ (rr.kept.commit < (rr.kept.log.length:Int)):=by omega
        simp only [Hc,↓reduceIte]))
  (try rw [Hh.out])
  obtain ⟨Wu,Hd⟩:=mJ ((wt.setCell ⟨gr,5,none⟩ (.int .i64 (m.commit))).drew)
  rw [<- Hd]
  have HU:=mA (show Work Wu base gw gr { rr with kept:={ rr.kept with commit:=m.commit } } (.slice A5 rr.kept.log.length c5) Hr wv5 gv5 nv5 ov5 ms css5/\Blk Wu w.heap.size 43 (mN m A m.log.length c)/\Below base w Wu from by
   rw [Hd]
   exact ⟨(Hf.out.set_commit (m.commit)).below (mG _ _).drew,Blk.drew (zAd HT.out.box (Same.set_ (Ts:=[43]) Hf.out.rb (mE _) (by decide) 5 _) (by simp)),(HT.out.low.trans (Hf.out.low 5 _)).drew⟩)
  have Hn:base<=Wu.heap.size:=mD Ha HU.out.2.2.size
  clear Hd d0 d4 d5 k1 k5 dz dl dm dk hq hh
  obtain ⟨-,-,-,-,d4⟩:=cz5 HU.out.1.rb
  obtain ⟨-,k1⟩:=cz2 HU.out.2.1
  have dm:=HU.out.1.rb.lt
  have dk:=HU.out.2.1.lt
  go_wp2_with fail
  go_still_tail 9,(by kernel_rfl)
  change wpList _ _ _ _ _ Wu.drew
  go_wp2_with (go_at_call 40;refine (zBz none 0 0 { Scu.msg0 with kind:=2,n:=rr.kept.log.length } m.from_ _ base gw gr _ ms (HU.out.1.below (mG _ _).drew).e Hn IsStrs.nil_ (mD (Nat.mul_le_mul_right 80 (by omega)) HM.out) _ rfl).mono ?_;rintro en w5 ⟨rfl,hk,h5⟩;have HK:=mA (mB hk (HU.out.2.2.trans ((mG base Wu).drew.trans h5)));clear hk h5)
  go_wp2
  go_end0
  refine ⟨rfl,?_,HK.out.2⟩
  have hk:=HK.out.1
  have Hi:rr.me=r.me:=by rw [Hq.out];exact zAn r m
  rw [if_neg (show ¬ m.from_=rr.me from by rw [Hi];exact H3.out.2)] at hk
  rw [Hh.out,<- Hi]
  exact hk
 have Hg:max rr.kept.commit (min m.commit (rr.kept.log.length:Int))=rr.kept.commit:=by omega
 have Hh:=mA Hg
 clear Hg
 go_wp2_with fail
 go_region
 (try (have Hm:¬ ((rr.kept.log.length:Int) < m.commit):=by omega
       simp only [Hm,↓reduceIte]))
 (try (have Hc:¬ (rr.kept.commit < m.commit):=by omega
       simp only [Hc,↓reduceIte]))
 (try (have Hc:¬ (rr.kept.commit < (rr.kept.log.length:Int)):=by omega
       simp only [Hc,↓reduceIte]))
 (try rw [Hh.out])
 obtain ⟨Wu,Hd⟩:=mJ ((wt.setCell ⟨gr,5,none⟩ (.int .i64 (rr.kept.commit))).drew)
 rw [<- Hd]
 have HU:=mA (show Work Wu base gw gr { rr with kept:={ rr.kept with commit:=rr.kept.commit } } (.slice A5 rr.kept.log.length c5) Hr wv5 gv5 nv5 ov5 ms css5/\Blk Wu w.heap.size 43 (mN m A m.log.length c)/\Below base w Wu from by
  rw [Hd]
  exact ⟨(Hf.out.set_commit (rr.kept.commit)).below (mG _ _).drew,Blk.drew (zAd HT.out.box (Same.set_ (Ts:=[43]) Hf.out.rb (mE _) (by decide) 5 _) (by simp)),(HT.out.low.trans (Hf.out.low 5 _)).drew⟩)
 have Hn:base<=Wu.heap.size:=mD Ha HU.out.2.2.size
 clear Hd d0 d4 d5 k1 k5 dz dl dm dk hq hh
 obtain ⟨-,-,-,-,d4⟩:=cz5 HU.out.1.rb
 obtain ⟨-,k1⟩:=cz2 HU.out.2.1
 have dm:=HU.out.1.rb.lt
 have dk:=HU.out.2.1.lt
 go_wp2_with fail
 go_still_tail 9,(by kernel_rfl)
 change wpList _ _ _ _ _ Wu.drew
 go_wp2_with (go_at_call 40;refine (zBz none 0 0 { Scu.msg0 with kind:=2,n:=rr.kept.log.length } m.from_ _ base gw gr _ ms (HU.out.1.below (mG _ _).drew).e Hn IsStrs.nil_ (mD (Nat.mul_le_mul_right 80 (by omega)) HM.out) _ rfl).mono ?_;rintro en w5 ⟨rfl,hk,h5⟩;have HK:=mA (mB hk (HU.out.2.2.trans ((mG base Wu).drew.trans h5)));clear hk h5)
 go_wp2
 go_end0
 refine ⟨rfl,?_,HK.out.2⟩
 have hk:=HK.out.1
 have Hi:rr.me=r.me:=by rw [Hq.out];exact zAn r m
 rw [if_neg (show ¬ m.from_=rr.me from by rw [Hi];exact H3.out.2)] at hk
 rw [Hh.out,<- Hi]
 exact hk
end Go.Proofs.YtjnjhmkgfjikfaaDoor
