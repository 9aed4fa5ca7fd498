/- Part 17: words and walks under the laws of the whole. -/
import Derived.BigRegion
import Derived.Test.YtjnjhmkgfjikfaaDoorLv15
set_option linter.unusedVariables false
set_option linter.unusedSimpArgs false
set_option maxHeartbeats 4000000
set_option maxRecDepth 100000
namespace Go.Proofs.YtjnjhmkgfjikfaaDoor
open Go.RowKit
theorem zLr (w:World) (base gw gr:Nat) (r:Scu.Replica) (m:Scu.Message) (A:Option Addr) (n c:Nat) (ms:List Scu.Message) (hW:WorkE w base gw gr r ms) (Hd:base<=w.heap.size) (h3:Rep3 r) (Ke:0<=r.kept.view) (Hw:0<=m.from_) (Hx:m.from_ < 3) (hm:(ms.length+4)*80<=R47) :
 Calls Tryd.prog 26 #[.pointer (some ⟨gw,0,none⟩),.agg #[.int .i64 m.kind,.int .i64 m.from_,.int .i64 m.tq,.int .i64 m.view,.int .i64 m.normal,.int .i64 m.commit,.int .i64 m.n,.slice A n c]] w fun e w'=>e=.returned (.tuple #[])/\WorkE w' base gw gr (Scu.hearHas r m).1 (ms ++ (Scu.hearHas r m).2)/\Below base w w':=by
 obtain ⟨lu,hv,wv,gv,nv,ov,css,hW⟩:=hW
 obtain ⟨Al,nl,cl,rfl⟩:=hW.own.is.log.form
 have Kf:nl=r.kept.log.length:=by
  obtain ⟨A',c',e,_⟩:=hW.own.is.log.ex
  cases e
  rfl
 subst Kf
 obtain ⟨gh,ch,rfl⟩:=ones3f hW.own.own.have_ h3.1
 have HW:=mA hW
 have H3:=mA h3
 have HM:=mA hm
 have Hq:=mA (mB Hw Hx)
 clear hW h3 hm
 go_enter Tryd.func26,Tryd.ntmps26
 go_upto_region 1 with fail
 obtain ⟨Wd,Hr⟩:=mJ (w.alloc (.cells (mN m A n c) 43))
 rw [<- Hr]
 have Hs:Below w.heap.size w Wd:=by rw [Hr];exact zAa _ _
 have hk:Blk Wd w.heap.size 43 (mN m A n c):=by rw [Hr];exact Blk.new _ _ _
 have Ho:=mA (mB (HW.out.below Hs) (mB hk (Hs.mono Hd)))
 have Kg:base<=Wd.heap.size:=mD Hd Hs.size
 clear Hr Hs hk
 have Hu:=Ho.out.1.wb
 have Hv:=Ho.out.1.rb
 have d0:=cz1 Hu
 obtain ⟨r0,r1,r2,r3,r4,r5,r6,r7,r8,r9⟩:=cz10 Hv
 obtain ⟨-,k1,-,k3,-,-,k6⟩:=cz7 Ho.out.2.1
 have dl:=Hu.lt
 have dm:=Hv.lt
 have dk:=Ho.out.2.1.lt
 clear Hu Hv
 by_cases hv:m.view=r.kept.view
 ·have Kh:(m.view != r.kept.view)=false:=by simpa using hv
  have HV:=mA hv
  clear hv
  obtain ⟨ld,Hy⟩:=mK (Scu.leads r)
  have Hn:=mA Hy
  clear Hy
  go_wp2_with fail
  go_region_held3 (fun w'=>w'.cell? ⟨gw,0,none⟩=some (.pointer (some ⟨gr,0,none⟩))/\w'.cell? ⟨w.heap.size,3,none⟩=some (.int .i64 m.view)/\w'.cell? ⟨gr,0,none⟩=some (.int .i64 r.me)/\w'.cell? ⟨gr,1,none⟩=some (.int .i64 r.kept.view)/\w'.cell? ⟨gr,2,none⟩=some (.int .i64 r.kept.normal)/\w'.cell? ⟨gr,3,none⟩=some (.bool r.kept.calm)/\w'.cell? ⟨gr,4,none⟩=some (.slice Al r.kept.log.length cl)/\w'.cell? ⟨gr,5,none⟩=some (.int .i64 r.kept.commit)/\w'.cell? ⟨gr,6,none⟩=some (.slice (some ⟨gh,0,none⟩) 3 ch)/\w'.cell? ⟨gr,7,none⟩=some (wv)/\w'.cell? ⟨gr,8,none⟩=some (gv)/\w'.cell? ⟨gr,9,none⟩=some (nv))
   (first | (go_split_ands;(try dsimp only);(repeat' apply mB) <;> (with_reducible assumption)) | (go_split_ands;(try dsimp only);exact ⟨d0,k3,r0,r1,r2,r3,r4,r5,r6,r7,r8,r9⟩))
   (first
    | (go_at_call 15;refine (zEf _ _ _ _ _ r Ke _ ld Hn.out).mono ?_;rintro en x1 ⟨rfl,Hz⟩
       have nn1:Below Wd.heap.size Wd x1:=(below_drewN (mG _ _) 1).trans Hz
       have N1:=mA nn1
       have e0:=cW nn1 dl d0
       have e3:=cW nn1 dk k3
       have s0:=cW nn1 dm r0
       have s1:=cW nn1 dm r1
       have s2:=cW nn1 dm r2
       have s3:=cW nn1 dm r3
       have s4:=cW nn1 dm r4
       have s5:=cW nn1 dm r5
       have s6:=cW nn1 dm r6
       have s7:=cW nn1 dm r7
       have s8:=cW nn1 dm r8
       have s9:=cW nn1 dm r9
       clear nn1 Hz))
  all_goals
   rename_i hHeld
   clear hHeld
   have Hf:=mA (mB (Ho.out.1.below N1.out) (mB (Ho.out.2.1.same N1.out) (Ho.out.2.2.trans (N1.out.mono Kg))))
   clear N1 d0 r0 r1 r2 r3 r4 r5 r6 r7 r8 r9 k1 k3 k6 dl dm dk
   cases ld with
   | false =>
     have Ha:Scu.hearHas r m=(r,[]):=by unfold Scu.hearHas;rw [if_pos (.inr Hn.out)]
     have Hc:=mA Ha
     clear Ha
     go_wp2
     refine bodyPost_ret (v:=.tuple #[]) (by simp [results,Tryd.results26]) rfl ?_
     refine ⟨rfl,?_,Hf.out.2.2⟩
     rw [Hc.out,List.append_nil]
     exact Hf.out.1.e
   | true =>
     obtain ⟨Ka,⟨cur,hB⟩,Ki,Kb,Kc⟩:=ones3' Hf.out.1.own.own.have_ H3.out.1
     obtain ⟨h,hh⟩:=mJ (r.have_.getD m.from_.toNat 0)
     have Ht:x1.cell? ⟨gh,m.from_.toNat,none⟩=some (.int .i64 h):=by
      have Kd:m.from_.toNat < r.have_.length:=by rw [H3.out.1];have:=Hq.out;omega
      rw [Kc _ (by have:=Hq.out;omega),List.getElem?_map,mH Kd,hh,mI,mH Kd]
      rfl
     have hz:=Kb m.from_.toNat
     have HB:=mA (mB hB (mB Ka hh))
     clear Kc Ki Kb hB Ka hh
     obtain ⟨-,k1,-,-,-,-,k6⟩:=cz7 Hf.out.2.1
     have Hw:=Hq.out.1
     have Hx:=Hq.out.2
     by_cases hq:(r.kept.log.length:Int) < m.n
     ·have Hg:min m.n (r.kept.log.length:Int)=(r.kept.log.length:Int):=by omega
      have d0:=Hf.out.1.wb.cell 0
      have dl:=Hf.out.1.wb.lt
      have dm:=Hf.out.1.rb.lt
      simp only [List.getElem?_toArray,List.getElem?_cons_zero,List.getElem?_cons_succ] at d0
      go_wp2_with fail
      go_region
      go_wp2_with fail
      by_cases hh:h < (r.kept.log.length:Int)
      ·have He:max h ((r.kept.log.length:Int))=(r.kept.log.length:Int):=by omega
       go_region
       (try simp only [if_neg hq])
       (try simp only [if_neg hh])
       obtain ⟨W2,Hh⟩:=mJ ((x1.setCell ⟨gh,m.from_.toNat,none⟩ (.int .i64 ((r.kept.log.length:Int)))).drew.drew)
       rw [<- Hh]
       have Hb:=mA (show Work W2 base gw gr { r with have_:=r.have_.set m.from_.toNat ((r.kept.log.length:Int)) } (.slice Al r.kept.log.length cl) (.slice (some ⟨gh,0,none⟩) 3 ch) wv gv nv ov ms css/\Below base w W2 from by
        obtain ⟨a1,a2,_⟩:=Hf.out.1.put_have HB.out.1 HB.out.2.1 m.from_.toNat ((r.kept.log.length:Int))
        rw [Hh]
        exact ⟨a1.below (mG _ _).drew.drew,(Hf.out.2.2.trans a2).drew.drew⟩)
       clear Hh d0 e0 e3 s0 s1 s2 s3 s4 s5 s6 s7 s8 s9 Ht hz k1 k6 dl dm
       have d0:=cz1 Hb.out.1.wb
       obtain ⟨-,-,-,-,-,d5⟩:=cz6 Hb.out.1.rb
       have dz:=Hb.out.1.rb.frozen
       have dl:=Hb.out.1.wb.lt
       have dm:=Hb.out.1.rb.lt
       by_cases hc:r.kept.commit < (r.kept.log.length:Int)
       ·have Ha:Scu.hearHas r m=({ r with have_:=r.have_.set m.from_.toNat ((r.kept.log.length:Int)),kept:={ r.kept with commit:=(r.kept.log.length:Int) } },Scu.leadOn { r with have_:=r.have_.set m.from_.toNat ((r.kept.log.length:Int)),kept:={ r.kept with commit:=(r.kept.log.length:Int) } }):=by
         unfold Scu.hearHas
         rw [if_neg (by rw [Hn.out];simp [HV.out])]
         simp only
         rw [Hg,<- HB.out.2.2,He,if_pos hc]
        have Hc:=mA Ha
        have HN:=mA (mB (Hb.out.1.set_commit ((r.kept.log.length:Int))) (Hb.out.1.low 5 (.int .i64 ((r.kept.log.length:Int)))))
        clear Ha He Hg hh hq
        go_upto_region 7 with fail
        obtain ⟨W3,Hi⟩:=mJ (W2.setCell ⟨gr,5,none⟩ (.int .i64 ((r.kept.log.length:Int))))
        rw [<- Hi]
        have Hj:=mA (show WorkE W3 base gw gr { r with have_:=r.have_.set m.from_.toNat ((r.kept.log.length:Int)),kept:={ r.kept with commit:=(r.kept.log.length:Int) } } ms/\Below base w W3 from by rw [Hi];exact ⟨HN.out.1.e,Hb.out.2.trans HN.out.2⟩)
        have Hp:base<=W3.heap.size:=mD Hd Hj.out.2.size
        clear Hi d0 d5 dz dl dm hc
        go_wp2_with fail
        refine (zEd W3 base gw gr _ ms Hj.out.1 Hp HM.out).mono ?_;rintro en x3 ⟨rfl,Hk,Hl⟩
        have Hm:=mA (mB Hk (Hj.out.2.trans Hl))
        clear Hk Hl
        go_wp2
        go_end0
        refine ⟨rfl,?_,Hm.out.2⟩
        rw [Hc.out]
        exact Hm.out.1
       have Ha:Scu.hearHas r m=({ r with have_:=r.have_.set m.from_.toNat ((r.kept.log.length:Int)) },[]):=by
        unfold Scu.hearHas
        rw [if_neg (by rw [Hn.out];simp [HV.out])]
        simp only
        rw [Hg,<- HB.out.2.2,He,if_neg hc]
       have Hc:=mA Ha
       clear Ha He Hg hh hq
       go_wp2
       go_end0
       refine ⟨rfl,?_,Hb.out.2⟩
       rw [Hc.out,List.append_nil]
       exact Hb.out.1.e
      have He:max h ((r.kept.log.length:Int))=h:=by omega
      go_region
      (try simp only [if_neg hq])
      (try simp only [if_neg hh])
      obtain ⟨W2,Hh⟩:=mJ ((x1.setCell ⟨gh,m.from_.toNat,none⟩ (.int .i64 (h))).drew.drew)
      rw [<- Hh]
      have Hb:=mA (show Work W2 base gw gr { r with have_:=r.have_.set m.from_.toNat (h) } (.slice Al r.kept.log.length cl) (.slice (some ⟨gh,0,none⟩) 3 ch) wv gv nv ov ms css/\Below base w W2 from by
       obtain ⟨a1,a2,_⟩:=Hf.out.1.put_have HB.out.1 HB.out.2.1 m.from_.toNat (h)
       rw [Hh]
       exact ⟨a1.below (mG _ _).drew.drew,(Hf.out.2.2.trans a2).drew.drew⟩)
      clear Hh d0 e0 e3 s0 s1 s2 s3 s4 s5 s6 s7 s8 s9 Ht hz k1 k6 dl dm
      have d0:=cz1 Hb.out.1.wb
      obtain ⟨-,-,-,-,-,d5⟩:=cz6 Hb.out.1.rb
      have dz:=Hb.out.1.rb.frozen
      have dl:=Hb.out.1.wb.lt
      have dm:=Hb.out.1.rb.lt
      by_cases hc:r.kept.commit < (r.kept.log.length:Int)
      ·have Ha:Scu.hearHas r m=({ r with have_:=r.have_.set m.from_.toNat (h),kept:={ r.kept with commit:=(r.kept.log.length:Int) } },Scu.leadOn { r with have_:=r.have_.set m.from_.toNat (h),kept:={ r.kept with commit:=(r.kept.log.length:Int) } }):=by
        unfold Scu.hearHas
        rw [if_neg (by rw [Hn.out];simp [HV.out])]
        simp only
        rw [Hg,<- HB.out.2.2,He,if_pos hc]
       have Hc:=mA Ha
       have HN:=mA (mB (Hb.out.1.set_commit ((r.kept.log.length:Int))) (Hb.out.1.low 5 (.int .i64 ((r.kept.log.length:Int)))))
       clear Ha He Hg hh hq
       go_upto_region 7 with fail
       obtain ⟨W3,Hi⟩:=mJ (W2.setCell ⟨gr,5,none⟩ (.int .i64 ((r.kept.log.length:Int))))
       rw [<- Hi]
       have Hj:=mA (show WorkE W3 base gw gr { r with have_:=r.have_.set m.from_.toNat (h),kept:={ r.kept with commit:=(r.kept.log.length:Int) } } ms/\Below base w W3 from by rw [Hi];exact ⟨HN.out.1.e,Hb.out.2.trans HN.out.2⟩)
       have Hp:base<=W3.heap.size:=mD Hd Hj.out.2.size
       clear Hi d0 d5 dz dl dm hc
       go_wp2_with fail
       refine (zEd W3 base gw gr _ ms Hj.out.1 Hp HM.out).mono ?_;rintro en x3 ⟨rfl,Hk,Hl⟩
       have Hm:=mA (mB Hk (Hj.out.2.trans Hl))
       clear Hk Hl
       go_wp2
       go_end0
       refine ⟨rfl,?_,Hm.out.2⟩
       rw [Hc.out]
       exact Hm.out.1
      have Ha:Scu.hearHas r m=({ r with have_:=r.have_.set m.from_.toNat (h) },[]):=by
       unfold Scu.hearHas
       rw [if_neg (by rw [Hn.out];simp [HV.out])]
       simp only
       rw [Hg,<- HB.out.2.2,He,if_neg hc]
      have Hc:=mA Ha
      clear Ha He Hg hh hq
      go_wp2
      go_end0
      refine ⟨rfl,?_,Hb.out.2⟩
      rw [Hc.out,List.append_nil]
      exact Hb.out.1.e
     ·have Hg:min m.n (r.kept.log.length:Int)=m.n:=by omega
      have d0:=Hf.out.1.wb.cell 0
      have dl:=Hf.out.1.wb.lt
      have dm:=Hf.out.1.rb.lt
      simp only [List.getElem?_toArray,List.getElem?_cons_zero,List.getElem?_cons_succ] at d0
      go_wp2_with fail
      go_region
      go_wp2_with fail
      by_cases hh:h < m.n
      ·have He:max h (m.n)=m.n:=by omega
       go_region
       (try simp only [if_neg hq])
       (try simp only [if_neg hh])
       obtain ⟨W2,Hh⟩:=mJ ((x1.setCell ⟨gh,m.from_.toNat,none⟩ (.int .i64 (m.n))).drew.drew)
       rw [<- Hh]
       have Hb:=mA (show Work W2 base gw gr { r with have_:=r.have_.set m.from_.toNat (m.n) } (.slice Al r.kept.log.length cl) (.slice (some ⟨gh,0,none⟩) 3 ch) wv gv nv ov ms css/\Below base w W2 from by
        obtain ⟨a1,a2,_⟩:=Hf.out.1.put_have HB.out.1 HB.out.2.1 m.from_.toNat (m.n)
        rw [Hh]
        exact ⟨a1.below (mG _ _).drew.drew,(Hf.out.2.2.trans a2).drew.drew⟩)
       clear Hh d0 e0 e3 s0 s1 s2 s3 s4 s5 s6 s7 s8 s9 Ht hz k1 k6 dl dm
       have d0:=cz1 Hb.out.1.wb
       obtain ⟨-,-,-,-,-,d5⟩:=cz6 Hb.out.1.rb
       have dz:=Hb.out.1.rb.frozen
       have dl:=Hb.out.1.wb.lt
       have dm:=Hb.out.1.rb.lt
       by_cases hc:r.kept.commit < m.n
       ·have Ha:Scu.hearHas r m=({ r with have_:=r.have_.set m.from_.toNat (m.n),kept:={ r.kept with commit:=m.n } },Scu.leadOn { r with have_:=r.have_.set m.from_.toNat (m.n),kept:={ r.kept with commit:=m.n } }):=by
         unfold Scu.hearHas
         rw [if_neg (by rw [Hn.out];simp [HV.out])]
         simp only
         rw [Hg,<- HB.out.2.2,He,if_pos hc]
        have Hc:=mA Ha
        have HN:=mA (mB (Hb.out.1.set_commit (m.n)) (Hb.out.1.low 5 (.int .i64 (m.n))))
        clear Ha He Hg hh hq
        go_upto_region 7 with fail
        obtain ⟨W3,Hi⟩:=mJ (W2.setCell ⟨gr,5,none⟩ (.int .i64 (m.n)))
        rw [<- Hi]
        have Hj:=mA (show WorkE W3 base gw gr { r with have_:=r.have_.set m.from_.toNat (m.n),kept:={ r.kept with commit:=m.n } } ms/\Below base w W3 from by rw [Hi];exact ⟨HN.out.1.e,Hb.out.2.trans HN.out.2⟩)
        have Hp:base<=W3.heap.size:=mD Hd Hj.out.2.size
        clear Hi d0 d5 dz dl dm hc
        go_wp2_with fail
        refine (zEd W3 base gw gr _ ms Hj.out.1 Hp HM.out).mono ?_;rintro en x3 ⟨rfl,Hk,Hl⟩
        have Hm:=mA (mB Hk (Hj.out.2.trans Hl))
        clear Hk Hl
        go_wp2
        go_end0
        refine ⟨rfl,?_,Hm.out.2⟩
        rw [Hc.out]
        exact Hm.out.1
       have Ha:Scu.hearHas r m=({ r with have_:=r.have_.set m.from_.toNat (m.n) },[]):=by
        unfold Scu.hearHas
        rw [if_neg (by rw [Hn.out];simp [HV.out])]
        simp only
        rw [Hg,<- HB.out.2.2,He,if_neg hc]
       have Hc:=mA Ha
       clear Ha He Hg hh hq
       go_wp2
       go_end0
       refine ⟨rfl,?_,Hb.out.2⟩
       rw [Hc.out,List.append_nil]
       exact Hb.out.1.e
      have He:max h (m.n)=h:=by omega
      go_region
      (try simp only [if_neg hq])
      (try simp only [if_neg hh])
      obtain ⟨W2,Hh⟩:=mJ ((x1.setCell ⟨gh,m.from_.toNat,none⟩ (.int .i64 (h))).drew.drew)
      rw [<- Hh]
      have Hb:=mA (show Work W2 base gw gr { r with have_:=r.have_.set m.from_.toNat (h) } (.slice Al r.kept.log.length cl) (.slice (some ⟨gh,0,none⟩) 3 ch) wv gv nv ov ms css/\Below base w W2 from by
       obtain ⟨a1,a2,_⟩:=Hf.out.1.put_have HB.out.1 HB.out.2.1 m.from_.toNat (h)
       rw [Hh]
       exact ⟨a1.below (mG _ _).drew.drew,(Hf.out.2.2.trans a2).drew.drew⟩)
      clear Hh d0 e0 e3 s0 s1 s2 s3 s4 s5 s6 s7 s8 s9 Ht hz k1 k6 dl dm
      have d0:=cz1 Hb.out.1.wb
      obtain ⟨-,-,-,-,-,d5⟩:=cz6 Hb.out.1.rb
      have dz:=Hb.out.1.rb.frozen
      have dl:=Hb.out.1.wb.lt
      have dm:=Hb.out.1.rb.lt
      by_cases hc:r.kept.commit < m.n
      ·have Ha:Scu.hearHas r m=({ r with have_:=r.have_.set m.from_.toNat (h),kept:={ r.kept with commit:=m.n } },Scu.leadOn { r with have_:=r.have_.set m.from_.toNat (h),kept:={ r.kept with commit:=m.n } }):=by
        unfold Scu.hearHas
        rw [if_neg (by rw [Hn.out];simp [HV.out])]
        simp only
        rw [Hg,<- HB.out.2.2,He,if_pos hc]
       have Hc:=mA Ha
       have HN:=mA (mB (Hb.out.1.set_commit (m.n)) (Hb.out.1.low 5 (.int .i64 (m.n))))
       clear Ha He Hg hh hq
       go_upto_region 7 with fail
       obtain ⟨W3,Hi⟩:=mJ (W2.setCell ⟨gr,5,none⟩ (.int .i64 (m.n)))
       rw [<- Hi]
       have Hj:=mA (show WorkE W3 base gw gr { r with have_:=r.have_.set m.from_.toNat (h),kept:={ r.kept with commit:=m.n } } ms/\Below base w W3 from by rw [Hi];exact ⟨HN.out.1.e,Hb.out.2.trans HN.out.2⟩)
       have Hp:base<=W3.heap.size:=mD Hd Hj.out.2.size
       clear Hi d0 d5 dz dl dm hc
       go_wp2_with fail
       refine (zEd W3 base gw gr _ ms Hj.out.1 Hp HM.out).mono ?_;rintro en x3 ⟨rfl,Hk,Hl⟩
       have Hm:=mA (mB Hk (Hj.out.2.trans Hl))
       clear Hk Hl
       go_wp2
       go_end0
       refine ⟨rfl,?_,Hm.out.2⟩
       rw [Hc.out]
       exact Hm.out.1
      have Ha:Scu.hearHas r m=({ r with have_:=r.have_.set m.from_.toNat (h) },[]):=by
       unfold Scu.hearHas
       rw [if_neg (by rw [Hn.out];simp [HV.out])]
       simp only
       rw [Hg,<- HB.out.2.2,He,if_neg hc]
      have Hc:=mA Ha
      clear Ha He Hg hh hq
      go_wp2
      go_end0
      refine ⟨rfl,?_,Hb.out.2⟩
      rw [Hc.out,List.append_nil]
      exact Hb.out.1.e
 have Kh:(m.view != r.kept.view)=true:=by simpa using hv
 have Ha:Scu.hearHas r m=(r,[]):=by unfold Scu.hearHas;rw [if_pos (.inl hv)]
 have Hc:=mA Ha
 clear Ha hv
 go_wp2_with fail
 go_region
 go_wp2
 refine bodyPost_ret (v:=.tuple #[]) (by simp [results,Tryd.results26]) rfl ?_
 refine ⟨rfl,?_,Ho.out.2.2.drew⟩
 rw [Hc.out,List.append_nil]
 exact (Ho.out.1.below (mG _ _).drew).e
end Go.Proofs.YtjnjhmkgfjikfaaDoor
