/- Part 38: words and walks under the laws of the whole. -/
import Derived.Test.YtnpphdaakookcaaDoorQ36
set_option linter.unusedVariables false
set_option linter.unusedSimpArgs false
set_option maxHeartbeats 4000000
set_option maxRecDepth 100000
namespace Go.Proofs.YtnpphdaakookcaaDoor
open Go.RowKit
theorem zOx {W:World} {t:TypeId} {u:Value} : Src1 (W.alloc (.cells #[u] t)) 1 (.slice (some ⟨W.heap.size,0,none⟩) 1 1) 1 [u]:=zWg
theorem zMd {W:World} {t:TypeId} {cs:List Value} {m:Nat} (hm:cs.length=m):Src1 (W.alloc (.cells cs.toArray t)) m (.slice (some ⟨W.heap.size,0,none⟩) 1 1) 1 cs:=zOs hm
theorem yAf {u:Value} (h:u.oneCell'=true):∀ v ∈ [u],v.oneCell'=true:=by
 intro v hv
 rw [List.mem_singleton] at hv
 subst hv
 exact h
theorem zWz (u:Scu.Customer):∀ v ∈ custV u,v.oneCell'=true:=by
 intro v hv
 simp only [custV,List.mem_cons,List.not_mem_nil,or_false] at hv
 rcases hv with rfl | rfl | rfl | rfl | rfl | rfl | rfl | rfl <;> rfl
theorem zOy {w:World} {base:Nat} {v:Value} {xs:List Int} (h:w.ownsRow base 33 1 v xs.length (xs.map (Value.int .i64))) (hl:xs.length<=300):IsOnes 33 8 (Value.int .i64) w 0 v xs:=by
 obtain ⟨A,c,rfl,hc,_,hr,_⟩:=zAg h
 exact ⟨⟨A,c,rfl,hc,hr⟩,by unfold R47;omega⟩
theorem yAg {W:World} {g:Nat} {cs:Array Value} (hB:Blk W g 32 cs) (a b c d e f:Value):Same [87,49,42,137,92,66,9,3,4,44,33] 0 W ((((((W.setCell ⟨g,0,none⟩ a).setCell ⟨g,1,none⟩ b).setCell ⟨g,2,none⟩ c).setCell ⟨g,3,none⟩ d).setCell ⟨g,4,none⟩ e).setCell ⟨g,5,none⟩ f):=by
 have h0:=hB.set_ 0 a
 have h1:=h0.set_ 1 b
 have h2:=h1.set_ 2 c
 have h3:=h2.set_ 3 d
 have h4:=h3.set_ 4 e
 exact (((((Same.set_ hB (mE _) (by decide) 0 a).trans (Same.set_ h0 (mE _) (by decide) 1 b)).trans (Same.set_ h1 (mE _) (by decide) 2 c)).trans (Same.set_ h2 (mE _) (by decide) 3 d)).trans (Same.set_ h3 (mE _) (by decide) 4 e)).trans (Same.set_ h4 (mE _) (by decide) 5 f)
theorem zNq {w W:World} {g:Nat} (hl:Below w.heap.size w W) (hg:w.heap.size<=g) (a b c d e f:Value):Below w.heap.size w ((((((W.setCell ⟨g,0,none⟩ a).setCell ⟨g,1,none⟩ b).setCell ⟨g,2,none⟩ c).setCell ⟨g,3,none⟩ d).setCell ⟨g,4,none⟩ e).setCell ⟨g,5,none⟩ f) :=
 (((((hl.setCell (p:=⟨g,0,none⟩) hg a).setCell (p:=⟨g,1,none⟩) hg b).setCell (p:=⟨g,2,none⟩) hg c).setCell (p:=⟨g,3,none⟩) hg d).setCell (p:=⟨g,4,none⟩) hg e).setCell (p:=⟨g,5,none⟩) hg f
theorem yAh {W7 W8 Wf:World} {base b7 gx:Nat} {x:Scu.Net} {codes:List Int} {rv sv fv cv tv ov rv7 sv7:Value} {cs1 cs2:List (List Value)} (h1:OwnR 49 10 160 RepE W8 b7 rv x.replicas cs1) (h2:OwnR 42 1 24 RowE W8 b7 sv x.slots cs2)
 (hN:NetW W7 base gx x rv7 sv7 fv cv tv) (hc:W7.ownsRow base 33 1 ov codes.length (codes.map (Value.int .i64))) (Hb:codes.length<=300) (hs:Same [87,49,42,137,92,66,9,3,4,44,33] 0 W8 Wf) (Ha:Same [87,49,42,137,92,66,9,3,4,44,33] 0 W7 Wf):OutW Wf rv sv fv cv tv ov (Scu.outOf (x,codes)):=by
 obtain ⟨f1,hf⟩:=hN.fly
 obtain ⟨f2,hu⟩:=hN.cust
 obtain ⟨f3,ht⟩:=hN.told
 exact ⟨IsRow.same h1.is (by simp) hs (fun _ _ h=>h.same (by simp) hs),IsRow.same h2.is (by simp) hs (fun _ _ h=>h.same (by simp) hs),IsRow.same hf.is (by simp) Ha (fun _ _ h=>h.same (by simp) Ha),IsRow.same hu.is (by simp) Ha (fun _ _ h=>h),IsRow.same ht.is (by simp) Ha (fun _ _ h=>h),zOy (zGs hc (by simp) Ha) Hb⟩
theorem zXa (n:Nat) (v:Value) (l:List Scu.Act) (w:World) (h1:1<=n) (h4:n<=4) (hl:l.length<=300) (hx:IsActs w v l) (x:Scu.Net) (codes:List Int) (hy:Scu.steps (Scu.netNew n) l=(x,codes)) :
 Calls Tryd.prog 12 #[.int .i64 n,v] w fun e w'=>(∃ rv sv fv cv tv ov,e=.returned (.tuple #[.agg #[rv,sv,fv,cv,tv,ov],.int .i64 0])/\OutW w' rv sv fv cv tv ov (Scu.outOf (x,codes)))/\Below w.heap.size w w':=by
 obtain ⟨Al,cl,lss,rfl,_⟩:=hx.ex
 have Vz:¬ ((n:Int) < 1):=by omega
 have Yp:¬ ((n:Int) > 4):=by omega
 have Rl:¬ ((l.length:Int) > 300):=by omega
 have HX:=mA hx
 have HY:=mA hy
 have Kl:=zAa w (.cells #[.slice none 0 0,.slice none 0 0,.slice none 0 0,.slice none 0 0,.slice none 0 0,.slice none 0 0] 32)
 have Km:=zAa (w.alloc (.cells #[.slice none 0 0,.slice none 0 0,.slice none 0 0,.slice none 0 0,.slice none 0 0,.slice none 0 0] 32)) (.cells #[.slice none 0 0,.slice none 0 0,.slice none 0 0,.slice none 0 0,.slice none 0 0] 87)
 have Hc:Below w.heap.size w ((w.alloc (.cells #[.slice none 0 0,.slice none 0 0,.slice none 0 0,.slice none 0 0,.slice none 0 0,.slice none 0 0] 32)).alloc (.cells #[.slice none 0 0,.slice none 0 0,.slice none 0 0,.slice none 0 0,.slice none 0 0] 87)):=Kl.trans (Km.mono Kl.size)
 have Vd:(w.alloc (.cells #[.slice none 0 0,.slice none 0 0,.slice none 0 0,.slice none 0 0,.slice none 0 0,.slice none 0 0] 32)).heap.size=w.heap.size+1:=by simp
 have Ga:NetE ((w.alloc (.cells #[.slice none 0 0,.slice none 0 0,.slice none 0 0,.slice none 0 0,.slice none 0 0,.slice none 0 0] 32)).alloc (.cells #[.slice none 0 0,.slice none 0 0,.slice none 0 0,.slice none 0 0,.slice none 0 0] 87)) w.heap.size (w.heap.size+1) (Scu.made 0 0) :=
  ⟨_,_,_,_,_,by rw [<- Vd];exact Blk.new _ _ _,⟨_,OwnR.nil_⟩,⟨_,OwnR.nil_⟩,⟨_,OwnR.nil_⟩,⟨_,OwnR.nil_⟩,⟨_,OwnR.nil_⟩,Nat.le_succ _⟩
 have Gb:Blk ((w.alloc (.cells #[.slice none 0 0,.slice none 0 0,.slice none 0 0,.slice none 0 0,.slice none 0 0,.slice none 0 0] 32)).alloc (.cells #[.slice none 0 0,.slice none 0 0,.slice none 0 0,.slice none 0 0,.slice none 0 0] 87)) w.heap.size 32 #[.slice none 0 0,.slice none 0 0,.slice none 0 0,.slice none 0 0,.slice none 0 0,.slice none 0 0]:=(Blk.new w 32 #[.slice none 0 0,.slice none 0 0,.slice none 0 0,.slice none 0 0,.slice none 0 0,.slice none 0 0]).same Km
 obtain ⟨W0,Gc⟩:=mJ ((w.alloc (.cells #[.slice none 0 0,.slice none 0 0,.slice none 0 0,.slice none 0 0,.slice none 0 0,.slice none 0 0] 32)).alloc (.cells #[.slice none 0 0,.slice none 0 0,.slice none 0 0,.slice none 0 0,.slice none 0 0] 87))
 rw [<- Gc] at Hc Ga Gb
 have Rm:=mA Ga
 have Rn:=mA Gb
 have Vr:=mA Hc
 clear hx hy Kl Km Hc Vd Ga Gb
 go_enter Tryd.func12,Tryd.ntmps12
 go_wp2_with fail
 rw [<- Gc]
 clear Gc
 go_loopw [29] (fun i wr=>∃ (k:Nat),k<=3/\i=.int .i64 k/\Hid (NetE wr w.heap.size (w.heap.size+1) (Scu.made k 0)/\Fr w.heap.size W0 wr)) (fun i _=>3 - (intOf i).toNat)
 case atStart=>exact ⟨0,mE _,rfl,mA ⟨Rm.out,Fr.refl _ _⟩⟩
 case round =>
  obtain ⟨k,hk,rfl,HI⟩:=hrel
  by_cases Kn:k < 3
  ·have Ve:(k:Int) < 3:=by omega
   obtain ⟨⟨rv,sv,fv,cv,tv,hN⟩,hF⟩:=HI.out
   obtain ⟨y,hy⟩:=mK (Scu.made k 0)
   rw [hy] at hN
   have Nb:y.replicas.length=k:=by rw [<- hy];simp [Scu.made]
   have Nc:y.slots.length=k:=by rw [<- hy];simp [Scu.made]
   obtain ⟨B0,e0,B1,e1,B2,e2,B3,e3,B4,e4,rfl,rfl,rfl,rfl,rfl⟩:=hN.forms
   obtain ⟨-,d1⟩:=cz2 hN.box
   have dl:=hN.box.lt
   have Ki:w.heap.size<=wr.heap.size:=mD Vr.out.size hF.size
   have HN:=mA hN
   have HF:=mA hF
   have Gd:=mA hy
   have Ro:=mA Nb
   have Rp:=mA Nc
   clear hN hF hy Nb Nc HI
   go_wp2_with fail
   obtain ⟨S,Hd⟩:∃ S:World->Prop,S=fun w'=>w'.cell? ⟨w.heap.size+1,1,none⟩=some (.slice B1 y.slots.length e1):=⟨_,rfl⟩
   have Hb:S wr.drew:=by rw [Hd];exact d1
   refine zAq S 10 (by kernel_rfl) (fun Ha=>?_)
   change wpAnyE _ _ _ _ _ _ _ _ _ wr.drew
   refine tkEs 14 [0,1,2,3,4] (by kernel_rfl) (fun _ _ _ _ _ h=>h) Ha Hb ?_
   iterate 5
    refine tkc (v:=?_) rfl (Or.inl ⟨by rfl,?_⟩) ?_
    rotate_left
    ·(intro wv He;rw [Hd] at He;have s0:=He;go_simp;(try with_reducible rfl))
    (try simp only [Act.put,zp1,zp2,zp3])
   refine tkz (fun Ha=>?_)
   refine alE 5 (by kernel_rfl) (wpOp_step (o:=_) rfl fun KA Hk=>?_)
   go_simp
   refine (zRe _).mono ?_;rintro en x1 ⟨⟨u1,rfl,Ko⟩,k1⟩
   have nn1:Below wr.heap.size wr x1:=(mG _ _).drew.trans k1
   have f1:=cW nn1 dl d1
   have Hb:S x1:=by rw [Hd];exact f1
   refine Hk _ _ ⟨.inr Hb,?_⟩
   clear k1
   have Ha:=Ha.set (i:=5) (by rw [<- List.contains_iff_mem];kernel_rfl)
   (try simp only [Act.put,zp1,zp2,zp3])
   obtain ⟨A1u,c1u,e1u⟩:∃ A c,u1=.slice A Scu.stageNew.length c:=by obtain ⟨⟨A,c,e,_⟩,_⟩:=Ko.is;exact ⟨A,c,e⟩
   subst e1u
   refine alE 6 (by kernel_rfl) (wpOp_step (o:=_) rfl fun KB Hl=>?_)
   go_simp
   have Hc:=nn1.alloc nn1.size (.cells #[.slice A1u Scu.stageNew.length c1u] 42)
   have Hb:S (x1.alloc (.cells #[.slice A1u Scu.stageNew.length c1u] 42)):=by rw [Hd];exact cW Hc dl d1
   refine Hl _ _ ⟨.inr Hb,?_⟩
   have Ha:=Ha.set (i:=6) (by rw [<- List.contains_iff_mem];kernel_rfl)
   (try simp only [Act.put,zp1,zp2,zp3])
   have Hw:=HN.out.below Hc
   obtain ⟨css,Hp⟩:=Hw.slots
   have Ge:y.slots.length<=3:=by rw [Rp.out];omega
   refine alE 7 (by kernel_rfl) (wpOp_step (o:=_) rfl fun KC Hm=>?_)
   rw [if_pos (by rfl)]
   refine zHt _ (.tmp 36) (.tmp 38) 26 rfl zLm w.heap.size (.slice B1 y.slots.length e1) y.slots.length css.flatten rfl Hp.row (.slice (some ⟨x1.heap.size,0,none⟩) 1 1) 1 [.slice A1u Scu.stageNew.length c1u] rfl zOx (yAf rfl) (by unfold maxLen;omega) (by omega) (mD Ki Hc.size) ?_
   intro v9 x4 h4 Hj _
   obtain ⟨A9,c9,rfl,_,_,_,_⟩:=zAg h4
   have Hi:=Hw.pushSlot (m:=Scu.stageNew) Hp ⟨_,rfl,Ko.is.below (zAa x1 _)⟩ (by unfold R47;omega) h4 Hj (mD Ki Hc.size)
   have Hg:=zAc Hw.box (Ts:=[87]) (Same.own Hp.row Hj (mE _) (by decide)) (by simp)
   obtain ⟨-,g1⟩:=cz2 Hg
   have gz:=Hg.frozen
   have gl4:=Hg.lt
   have Hb:S x4:=by rw [Hd];exact g1
   refine Hm _ _ ⟨.inr Hb,?_⟩
   have Ha:=Ha.set (i:=7) (by rw [<- List.contains_iff_mem];kernel_rfl)
   (try simp only [Act.put,zp1,zp2,zp3])
   refine tkEs 14 [8,9] (by kernel_rfl) (fun _ _ _ _ _ h=>h) Ha Hb ?_
   iterate 2
    refine tkc (v:=?_) rfl (Or.inl ⟨by rfl,?_⟩) ?_
    rotate_left
    ·(intro wv He;rw [Hd] at He;have s0:=He;go_simp;(try with_reducible rfl))
    (try simp only [Act.put,zp1,zp2,zp3])
   refine tkz (fun Ha=>?_)
   refine alE 10 (by kernel_rfl) (wpOp_step (o:=_) rfl fun KD Ht=>?_)
   go_simp
   refine Ht _ _ ⟨.inl rfl,zAp (by kernel_rfl) ?_ _⟩
   (try simp only [Act.put,zp1,zp2,zp3])
   obtain ⟨W2,Nd⟩:=mJ (x4.setCell ⟨w.heap.size+1,1,none⟩ (.slice A9 (y.slots.length+1) c9))
   change Exit.then _ _ _ _ (x4.setCell ⟨w.heap.size+1,1,none⟩ (.slice A9 (y.slots.length+1) c9))
   rw [<- Nd] at Hi ⊢
   obtain ⟨y2,Vs⟩:=mK ({ y with slots:=y.slots ++ [Scu.stageNew] })
   have Vt:y2.replicas.length=k:=by rw [<- Vs];exact Ro.out
   rw [Vs] at Hi
   have Rq:=mA Vs
   have Ne:=mA Vt
   clear Vs Vt
   have Rr:=mA Hi.1
   have Nf:=mA (HF.out.trans ((Fr.of Hc Ki).trans Hi.2))
   clear Nd Hi Hg g1 gz gl4 Hb Ht Hm Hl Hk Hd Ha Hc Hw Hp h4 Hj Ko nn1 f1 d1 dl HN HF
   obtain ⟨rr,fr,Ng⟩:∃ rr fr,Scu.repNew (k:Int) Scu.keptNew=(rr,fr):=⟨_,_,rfl⟩
   have Nh:=mA Ng
   clear Ng
   go_upto_region 10 with fail
   go_wp2_with fail
   refine (zPx none 0 0 k Scu.keptNew W2 0 IsStrs.nil_ rr fr Nh.out).mono ?_;rintro en w3 ⟨⟨lu,hv,wv,gv,nv,rfl,Gf⟩,k3⟩
   obtain ⟨E0,m0,z0,E1,z1,E2,z2,E3,z3,E4,z4,rfl,rfl,rfl,rfl,rfl⟩:=Gf.forms
   go_upto_region 11 with fail
   have Hy:=k3.trans ((zAa w3 (.cells (rN rr E0 m0 z0 E1 z1 E2 z2 E3 z3 E4 z4) 49)).mono k3.size)
   have Hz:=Blk.new w3 49 (rN rr E0 m0 z0 E1 z1 E2 z2 E3 z3 E4 z4)
   have Kp:=Gf.below (zAa w3 (.cells (rN rr E0 m0 z0 E1 z1 E2 z2 E3 z3 E4 z4) 49))
   obtain ⟨Wd,Kj⟩:=mJ (w3.alloc (.cells (rN rr E0 m0 z0 E1 z1 E2 z2 E3 z3 E4 z4) 49))
   rw [<- Kj] at Hy Hz Kp ⊢
   have Kq:=Rr.out.below Hy
   obtain ⟨b0,a0,b1,a1,b2,a2,b3,a3,b4,a4,erv,esv,efv,ecv,etv⟩:=Kq.forms
   rw [erv] at Kq
   have Vt:=Ne.out
   obtain ⟨css,Hp⟩:=Kq.reps
   have d0:=cz1 Kq.box
   obtain ⟨q0,q1,q2,q3,q4,q5,q6,q7,q8,q9⟩:=cz10 Hz
   have dl:=Kq.box.lt
   have Ni:w.heap.size<=W2.heap.size:=mD Vr.out.size Nf.out.size
   have Vf:w.heap.size<=Wd.heap.size:=mD Ni Hy.size
   have Rs:=mA Kq
   have Vg:=mA Hp
   have Nj:=mA Kp
   have Rt:=mA (Nf.out.trans (Fr.of Hy Ni))
   clear Kq Hp Kp Hy k3 Gf Hz Vt Kj erv esv efv ecv etv
   go_wp2_with fail
   obtain ⟨S,Hd⟩:∃ S:World->Prop,S=fun w'=>w'.cell? ⟨w.heap.size+1,0,none⟩=some (.slice b0 y2.replicas.length a0):=⟨_,rfl⟩
   have Hb:S Wd.drew:=by rw [Hd];exact d0
   refine zAq S 10 (by kernel_rfl) (fun Ha=>?_)
   change wpAnyE _ _ _ _ _ _ _ _ _ Wd.drew
   refine tkEs 14 [0,1,2,3,4] (by kernel_rfl) (fun _ _ _ _ _ h=>h) Ha Hb ?_
   iterate 5
    refine tkc (v:=?_) rfl (Or.inl ⟨by rfl,?_⟩) ?_
    rotate_left
    ·(intro wv He;rw [Hd] at He;have s0:=He;go_simp;(try with_reducible rfl))
    (try simp only [Act.put,zp1,zp2,zp3])
   refine tkz (fun Ha=>?_)
   refine alE 5 (by kernel_rfl) (wpOp_step (o:=_) rfl fun KA Hk=>?_)
   go_simp
   refine Hk _ _ ⟨.inr Hb,?_⟩
   have Ha:=Ha.set (i:=5) (by rw [<- List.contains_iff_mem];kernel_rfl)
   (try simp only [Act.put,zp1,zp2,zp3])
   refine alE 6 (by kernel_rfl) (wpOp_step (o:=_) rfl fun KB Hl=>?_)
   go_simp
   have Hc:=(mG Wd.heap.size Wd).drew.alloc (mC _) (.cells (rN rr E0 m0 z0 E1 z1 E2 z2 E3 z3 E4 z4) 49)
   have Hb:S (Wd.drew.alloc (.cells (rN rr E0 m0 z0 E1 z1 E2 z2 E3 z3 E4 z4) 49)):=by rw [Hd];exact cW Hc dl d0
   refine Hl _ _ ⟨.inr Hb,?_⟩
   have Ha:=Ha.set (i:=6) (by rw [<- List.contains_iff_mem];kernel_rfl)
   (try simp only [Act.put,zp1,zp2,zp3])
   have Hw:=Rs.out.below Hc
   have Hp:=Vg.out.same (B:=0) (Ts:=[9,3,4,44,49]) (by simp) (Same.below Hc) (fun _ _ h=>h.same (Ts:=[9,3,4,44]) (by simp) (Same.below Hc))
   have Yq:y2.replicas.length<=3:=by rw [Ne.out];omega
   refine alE 7 (by kernel_rfl) (wpOp_step (o:=_) rfl fun KC Hm=>?_)
   rw [if_pos (by rfl)]
   refine zHt _ (.tmp 52) (.tmp 54) 25 rfl zTd w.heap.size (.slice b0 y2.replicas.length a0) y2.replicas.length css.flatten rfl Hp.row (.slice (some ⟨Wd.heap.size,0,none⟩) 1 1) 1 (repV rr (.slice E0 m0 z0) (.slice E1 rr.have_.length z1) (.slice E2 rr.wants.length z2) (.slice E3 rr.gives.length z3) (.slice E4 rr.given.length z4)) rfl (zMd (W:=Wd.drew) rfl) (zCo Nj.out) (by unfold maxLen;omega) (by omega) (mD Vf Hc.size) ?_
   intro v9 x4 h4 Hj _
   obtain ⟨A9,c9,rfl,_,_,_,_⟩:=zAg h4
   have Hi:=Hw.pushRep (m:=rr) Hp ⟨_,_,_,_,_,rfl,Nj.out.below Hc⟩ (by unfold R47;omega) h4 Hj (mD Vf Hc.size)
   have Hg:=zAc Hw.box (Ts:=[87]) (Same.own Hp.row Hj (mE _) (by decide)) (by simp)
   have g0:=cz1 Hg
   have gz:=Hg.frozen
   have gl4:=Hg.lt
   have Hb:S x4:=by rw [Hd];exact g0
   refine Hm _ _ ⟨.inr Hb,?_⟩
   have Ha:=Ha.set (i:=7) (by rw [<- List.contains_iff_mem];kernel_rfl)
   (try simp only [Act.put,zp1,zp2,zp3])
   refine tkEs 14 [8,9] (by kernel_rfl) (fun _ _ _ _ _ h=>h) Ha Hb ?_
   iterate 2
    refine tkc (v:=?_) rfl (Or.inl ⟨by rfl,?_⟩) ?_
    rotate_left
    ·(intro wv He;rw [Hd] at He;have s0:=He;go_simp;(try with_reducible rfl))
    (try simp only [Act.put,zp1,zp2,zp3])
   refine tkz (fun Ha=>?_)
   refine alE 10 (by kernel_rfl) (wpOp_step (o:=_) rfl fun KD Ht=>?_)
   go_simp
   refine Ht _ _ ⟨.inl rfl,zAp (by kernel_rfl) ?_ _⟩
   (try simp only [Act.put,zp1,zp2,zp3])
   obtain ⟨W4,Nk⟩:=mJ (x4.setCell ⟨w.heap.size+1,0,none⟩ (.slice A9 (y2.replicas.length+1) c9))
   change Exit.inBlock _ _ _ _ (x4.setCell ⟨w.heap.size+1,0,none⟩ (.slice A9 (y2.replicas.length+1) c9))
   rw [<- Nk] at Hi ⊢
   have Hn:({ y2 with replicas:=y2.replicas ++ [rr] } : Scu.Net)=Scu.made (k+1) 0:=by
    rw [<- Rq.out,<- Gd.out]
    have:Scu.newRep k=rr:=by unfold Scu.newRep;rw [Nh.out]
    simp [Scu.made,List.range_succ,List.replicate_succ',this]
   have hE:=Hi.1.e
   rw [Hn] at hE
   have Hq:=mA (mB hE (Rt.out.trans ((Fr.of Hc Vf).trans Hi.2)))
   clear Nk Hi Hg g0 gz gl4 Hb Ht Hm Hl Hk Hd Ha Hc Hw Hp h4 Hj d0 dl q0 q1 q2 q3 q4 q5 q6 q7 q8 q9 hE Hn
   go_wp2_with fail
   go_roundw
   case rel=>exact ⟨k+1,by omega,rfl,Hq⟩
   case measure=>simp only [intOf];omega
  have Vh:k=3:=by omega
  subst Vh
  have Nl:=HI
  clear HI
  obtain ⟨W1,Nm⟩:∃ W:World,W=wr:=⟨_,rfl⟩
  rw [<- Nm] at Nl ⊢
  clear Nm
  go_wp2_with fail
  go_loopw [60] (fun i wr=>∃ (k:Nat),k<=n/\i=.int .i64 k/\Hid (NetE wr w.heap.size (w.heap.size+1) (Scu.made 3 k)/\Fr w.heap.size W0 wr)) (fun i _=>n - (intOf i).toNat)
  case atStart=>exact ⟨0,mE _,rfl,Nl⟩
  case round =>
   obtain ⟨k,hk,rfl,HI⟩:=hrel
   by_cases Kn:k < n
   ·have Ve:(k:Int) < n:=by omega
    obtain ⟨⟨rv,sv,fv,cv,tv,hN⟩,hF⟩:=HI.out
    obtain ⟨y,hy⟩:=mK (Scu.made 3 k)
    rw [hy] at hN
    have Nn:y.clients.length=k:=by rw [<- hy];simp [Scu.made]
    obtain ⟨B0,e0,B1,e1,B2,e2,B3,e3,B4,e4,rfl,rfl,rfl,rfl,rfl⟩:=hN.forms
    obtain ⟨-,-,-,d3⟩:=cz4 hN.box
    have dl:=hN.box.lt
    have Ki:w.heap.size<=wr.heap.size:=mD Vr.out.size hF.size
    obtain ⟨css,No⟩:=hN.cust
    have HN:=mA hN
    have HF:=mA hF
    have Gd:=mA hy
    have Yr:=mA Nn
    have Ru:=mA No
    have Vc:y.clients.length<=4:=by omega
    clear hN hF hy Nn HI No
    have Hc:=zAa wr (.cells (custV (Scu.newCust k)).toArray 92)
    have Vg:=mA (Ru.out.same (B:=0) (Ts:=[92]) (by simp) (Same.below Hc) (fun _ _ h=>h))
    have Kr:=mA Hc
    clear Hc
    go_wp2_with (at_builtin;refine zBc _ rfl (.tmp 67) (.tmp 71) 28 rfl zVg w.heap.size (.slice B3 y.clients.length e3) y.clients.length css.flatten rfl Vg.out.row (.slice (some ⟨wr.heap.size,0,none⟩) 1 1) 1 (custV (Scu.newCust k)) rfl (zMd rfl) (zWz _) (by unfold maxLen;omega) (by omega) (by simp only [World.size_alloc];omega) ?_)
    intro v4 x4 h4 Hj _
    obtain ⟨A9,c9,rfl,_,_,_,_⟩:=zAg h4
    have Hw:=HN.out.below Kr.out
    have Hi:=Hw.pushCust Vg.out (u:=Scu.newCust k) (by unfold R47;omega) h4 Hj (mD Ki Kr.out.size)
    have Hg:=zAc Hw.box (Ts:=[87]) (Same.own Vg.out.row Hj (mE _) (by decide)) (by simp)
    obtain ⟨-,-,-,g3⟩:=cz4 Hg
    have gz:=Hg.frozen
    have gl4:=Hg.lt
    have Hn:({ y with clients:=y.clients ++ [Scu.newCust k] } : Scu.Net)=Scu.made 3 (k+1):=by
     rw [<- Gd.out]
     simp [Scu.made,List.range_succ]
    have hE:=Hi.1.e
    rw [Hn] at hE
    have Hq:=mA (mB hE (HF.out.trans ((Fr.of Kr.out Ki).trans Hi.2)))
    clear Hw Hi Hg h4 Hj Hn hE
    go_wp2_with fail
    go_roundw
    case rel=>(repeat apply Exists.intro);exact ⟨⟨k+1,by omega,rfl,Hq⟩,rfl⟩
    case measure=>simp [intOf];omega
   have Rv:k=n:=by omega
   subst Rv
   have Kf:=zAa wr (.cells #[.slice none 0 0,.slice none 0 0,.slice none 0 0,.slice none 0 0,.slice none 0 0,.slice none 0 0] 32)
   obtain ⟨⟨rv,sv,fv,cv,tv,hN⟩,hF⟩:=HI.out
   have Vi:w.heap.size+1 < wr.heap.size:=hN.box.lt
   have Np:=mA (show ∃ rv sv fv cv tv ov,RunC w (wr.alloc (.cells #[.slice none 0 0,.slice none 0 0,.slice none 0 0,.slice none 0 0,.slice none 0 0,.slice none 0 0] 32)) wr.heap.size (Scu.made 3 k) rv sv fv cv tv ov [] from
    ⟨_,_,_,_,_,.slice none 0 0,hN.below Kf,(zAc Rn.out hF.2 (by simp)).same Kf,Blk.new _ _ _,World.ownsRow_nil _ _ _ _,(Vr.out.trans hF.1).trans (Kf.mono (by omega)),Vi⟩)
   obtain ⟨gq,Nq⟩:=mK (wr.heap.size)
   clear Kf hN hF HI Vi
   have Rl:=hl
   go_wp2_with fail
   obtain ⟨W5,Gg⟩:=mJ (wr.alloc (.cells #[.slice none 0 0,.slice none 0 0,.slice none 0 0,.slice none 0 0,.slice none 0 0,.slice none 0 0] 32))
   rw [<- Gg,Nq] at Np
   change Code.wp _ _ _ _ (wr.alloc (.cells #[.slice none 0 0,.slice none 0 0,.slice none 0 0,.slice none 0 0,.slice none 0 0,.slice none 0 0] 32))
   rw [<- Gg]
   clear Gg Nq
   go_loopw [79] (fun i wr=>∃ (j:Nat),j<=l.length/\i=.int .i64 j/\Hid (∃ rv sv fv cv tv ov,RunC w wr gq (Scu.steps (Scu.netNew k) (l.take j)).1 rv sv fv cv tv ov (Scu.steps (Scu.netNew k) (l.take j)).2)) (fun i _=>l.length - (intOf i).toNat)
   case atStart=>exact ⟨0,mE _,rfl,Np⟩
   case round =>
    obtain ⟨j,hj,rfl,HI⟩:=hrel
    by_cases Kn:j < l.length
    ·have Ve:(j:Int) < l.length:=by omega
     obtain ⟨rv,sv,fv,cv,tv,ov,hI⟩:=HI.out
     obtain ⟨y,cs,Vu⟩:∃ y cs,Scu.steps (Scu.netNew k) (l.take j)=(y,cs):=⟨_,_,rfl⟩
     have Hh:=(Scu.Came.steps (l.take j) (Scu.came_new k h4)).1
     have Ka:=(Scu.bnd_new k).steps (l.take j)
     have Vc:cs.length=(l.take j).length:=by have:=Scu.steps_codes (l.take j) (Scu.netNew k);rw [Vu] at this;exact this
     rw [Vu] at hI Hh Ka
     dsimp only at hI Hh Ka
     have Nr:(l.take j).length=j:=by rw [List.length_take];omega
     rw [Nr] at Vc Ka
     have Ki:w.heap.size<=wr.heap.size:=hI.low.size
     have Rw:=HX.out.below (hI.low)
     obtain ⟨⟨A',c',css,e,_,Vj,Ns,Nt,Nu⟩,_⟩:=Rw
     obtain ⟨rfl,rfl⟩:Al=A'/\cl=c':=by cases e;exact ⟨rfl,rfl⟩
     obtain ⟨g,o,ca,rfl,Ys,Gi,Hf,Gj⟩:=zDo Vj Ns (by decide) Nt Nu Kn
     clear e Vj Ns Nt Nu Gi
     obtain ⟨a,ha⟩:=mK (l[j])
     rw [ha] at Gj
     have Gk:ca=actV a:=Gj
     subst Gk
     have c0:wr.cell? ⟨g,o+j*9,none⟩=some (.int .i64 a.kind):=Hf 0 _ rfl
     have c1:wr.cell? ⟨g,o+j*9+1,none⟩=some (.int .i64 a.c):=Hf 1 _ rfl
     have c2:wr.cell? ⟨g,o+j*9+2,none⟩=some (.int .i64 a.r):=Hf 2 _ rfl
     have c3:wr.cell? ⟨g,o+j*9+3,none⟩=some (.int .i64 a.k):=Hf 3 _ rfl
     have c4:wr.cell? ⟨g,o+j*9+4,none⟩=some (.int .i64 a.n):=Hf 4 _ rfl
     have c5:wr.cell? ⟨g,o+j*9+5,none⟩=some (.int .i64 a.op.kind):=Hf 5 _ rfl
     have c6:wr.cell? ⟨g,o+j*9+6,none⟩=some (.int .i64 a.op.at_):=Hf 6 _ rfl
     have c7:wr.cell? ⟨g,o+j*9+7,none⟩=some (.int .i64 a.op.snap):=Hf 7 _ rfl
     have c8:wr.cell? ⟨g,o+j*9+8,none⟩=some (.string a.op.data):=Hf 8 _ rfl
     have Rx:=mA hI
     have Ry:=mA Vu
     have Rz:=mA Hh
     have Ya:=mA Ka
     have HA:=mA ha
     have Yb:=mA Vc
     clear Gj Hf hI Vu Hh Ka ha HI Vc Nr
     go_upto_region 22 with fail
     have Hc:=zAa wr (.cells (aN a) 40)
     have Hz:=Blk.new wr 40 (aN a)
     have hR:=Rx.out.below Hc
     obtain ⟨Wd,Kj⟩:=mJ (wr.alloc (.cells (aN a) 40))
     rw [<- Kj] at Hc Hz hR ⊢
     obtain ⟨Ao,co,eov,_,_,_,_⟩:=zAg hR.codes
     subst eov
     obtain ⟨-,-,-,-,-,d5⟩:=cz6 hR.out
     obtain ⟨q0,q1,q2,q3,q4,q5,q6,q7,q8⟩:=cz9 Hz
     have HR:=mA hR
     have Vf:w.heap.size<=Wd.heap.size:=mD Ki Hc.size
     obtain ⟨y',f,Vk⟩:∃ y' f,Scu.act y a=(y',f):=⟨_,_,rfl⟩
     have Vl:=mA Vk
     clear Vk c0 c1 c2 c3 c4 c5 c6 c7 c8 Hc Hz hR Kj
     go_wp2_with fail
     obtain ⟨S,Hd⟩:∃ S:World->Prop,S=fun w'=>w'.cell? ⟨gq,5,none⟩=some (.slice Ao cs.length co):=⟨_,rfl⟩
     have Hb:S Wd.drew:=by rw [Hd];exact d5
     refine zAq S 8 (by kernel_rfl) (fun Ha=>?_)
     change wpAnyE _ _ _ _ _ _ _ _ _ Wd.drew
     refine tkEs 14 [0,1,2] (by kernel_rfl) (fun _ _ _ _ _ h=>h) Ha Hb ?_
     iterate 3
      refine tkc (v:=?_) rfl (Or.inl ⟨by rfl,?_⟩) ?_
      rotate_left
      ·(intro wv He;rw [Hd] at He;have s0:=He;go_simp;(try with_reducible rfl))
      (try simp only [Act.put,zp1,zp2,zp3])
     refine tkz (fun Ha=>?_)
     refine alE 3 (by kernel_rfl) (wpOp_step (o:=_) rfl fun KA Hk=>?_)
     go_simp
     refine Hk _ _ ⟨.inr Hb,?_⟩
     have Ha:=Ha.set (i:=3) (by rw [<- List.contains_iff_mem];kernel_rfl)
     (try simp only [Act.put,zp1,zp2,zp3])
     have Hv:Below Wd.heap.size Wd Wd.drew:=(mG _ _).drew
     have Gl:=HR.out.below Hv
     refine alE 4 (by kernel_rfl) (wpOp_step (o:=_) rfl fun KB Hl=>?_)
     go_simp
     refine (zWx a Wd.drew w.heap.size (w.heap.size+1) y rv sv fv cv tv Gl.net Vf Rz.out (0+j) Ya.out (by omega) y' f Vl.out).mono ?_;rintro en x1 ⟨rfl,⟨rv',sv',fv',cv',tv',Vz⟩,Nv⟩
     have Gm:=Gl.acted Vz Nv
     obtain ⟨-,-,-,-,-,g5⟩:=cz6 Gm.out
     have Hb:S x1:=by rw [Hd];exact g5
     refine Hl _ _ ⟨.inr Hb,?_⟩
     have Ha:=Ha.set (i:=4) (by rw [<- List.contains_iff_mem];kernel_rfl)
     (try simp only [Act.put,zp1,zp2,zp3])
     refine alE 5 (by kernel_rfl) (wpOp_step (o:=_) rfl fun KC Hm=>?_)
     go_simp
     have Hc:=zAa x1 (.cells #[.int .i64 f] 33)
     have Ks:=Gm.below Hc
     obtain ⟨-,-,-,-,-,g6⟩:=cz6 Ks.out
     have Hb:S (x1.alloc (.cells #[.int .i64 f] 33)):=by rw [Hd];exact g6
     refine Hm _ _ ⟨.inr Hb,?_⟩
     have Ha:=Ha.set (i:=5) (by rw [<- List.contains_iff_mem];kernel_rfl)
     (try simp only [Act.put,zp1,zp2,zp3])
     have Yt:cs.length<=300:=by rw [Yb.out];omega
     refine alE 6 (by kernel_rfl) (wpOp_step (o:=_) rfl fun KD Ht=>?_)
     rw [if_pos (by rfl)]
     refine zHt _ (.tmp 84) (.tmp 88) 30 rfl zVi w.heap.size (.slice Ao cs.length co) cs.length (cs.map (Value.int .i64)) rfl Ks.codes (.slice (some ⟨x1.heap.size,0,none⟩) 1 1) 1 [.int .i64 f] rfl zOx (yAf rfl) (by unfold maxLen;omega) (by omega) Ks.low.size ?_
     intro v9 x4 h4 Hj _
     obtain ⟨A9,c9,rfl,_,_,_,_⟩:=zAg h4
     have Hi:=Ks.push h4 Hj
     have Hu:=zAc Ks.out (Ts:=[32]) (Same.own Ks.codes Hj (mE _) (by decide)) (by simp)
     obtain ⟨-,-,-,-,-,z5⟩:=cz6 Hu
     have zz:=Hu.frozen
     have zl:=Hu.lt
     have Hb:S x4:=by rw [Hd];exact z5
     refine Ht _ _ ⟨.inr Hb,?_⟩
     have Ha:=Ha.set (i:=6) (by rw [<- List.contains_iff_mem];kernel_rfl)
     (try simp only [Act.put,zp1,zp2,zp3])
     refine tkE 7 14 (v:=?_) rfl (by kernel_rfl) (fun _ _ _ h=>h) (Or.inl ⟨by rfl,?_⟩) Ha Hb (fun Ha=>?_)
     rotate_left
     ·(intro wv He;rw [Hd] at He;have s0:=He;go_simp;(try with_reducible rfl))
     (try simp only [Act.put,zp1,zp2,zp3])
     refine alE 8 (by kernel_rfl) (wpOp_step (o:=_) rfl fun KE Vm=>?_)
     go_simp
     refine Vm _ _ ⟨.inl rfl,zAp (by kernel_rfl) ?_ _⟩
     (try simp only [Act.put,zp1,zp2,zp3])
     obtain ⟨W6,Nw⟩:=mJ (x4.setCell ⟨gq,5,none⟩ (.slice A9 (cs.length+1) c9))
     change Exit.inBlock _ _ _ _ (x4.setCell ⟨gq,5,none⟩ (.slice A9 (cs.length+1) c9))
     rw [<- Nw] at Hi ⊢
     have Hq:=mA (show ∃ rv sv fv cv tv ov,RunC w W6 gq (Scu.steps (Scu.netNew k) (l.take (j+1))).1 rv sv fv cv tv ov (Scu.steps (Scu.netNew k) (l.take (j+1))).2 from by
      rw [Scu.steps_take Kn Ry.out,HA.out,Vl.out]
      exact ⟨_,_,_,_,_,_,Hi⟩)
     clear Nw Hi Hu z5 zz zl Hb Hk Hl Hm Ht Vm Hd Ha Hc Gm Ks Gl h4 Hj d5 q0 q1 q2 q3 q4 q5 q6 q7 q8 g5 g6 Vz Nv Hv
     go_wp2_with fail
     go_roundw
     case rel=>(repeat apply Exists.intro);exact ⟨⟨j+1,by omega,rfl,Hq⟩,rfl⟩
     case measure=>simp [intOf];omega
    have Yc:j=l.length:=by omega
    subst Yc
    obtain ⟨rv,sv,fv,cv,tv,ov,hI⟩:=HI.out
    rw [List.take_length,HY.out] at hI
    dsimp only at hI
    have Hh:=(Scu.Came.steps l (Scu.came_new k h4)).1
    rw [HY.out] at Hh
    dsimp only at Hh
    obtain ⟨Vv,Nx⟩:=Hh.rlen
    obtain ⟨W7,Ny⟩:∃ W:World,W=wr:=⟨_,rfl⟩
    rw [<- Ny] at hI ⊢
    obtain ⟨B0,e0,B1,e1,B2,e2,B3,e3,B4,e4,rfl,rfl,rfl,rfl,rfl⟩:=hI.net.forms
    have d0:=cz1 hI.net.box
    have Nz:w.heap.size<=W7.heap.size:=hI.low.size
    have Yd:=hI.gq
    have Kb:=mA hI
    have Ye:=mA (show ∃ orv osv,RunD w W7 W7 gq x.replicas x.slots 0 0 orv osv ov from ⟨_,_,Same.refl _ _ _,hI.res,hI.out,⟨_,OwnR.nil_⟩,⟨_,OwnR.nil_⟩,hI.low⟩)
    have Gn:=mA Vv
    have Ra:=mA Nx
    clear Ny hI HI Hh Vv Nx
    go_wp2_with fail
    go_loopw [97] (fun i wr=>∃ (r:Nat),r<=3/\i=.int .i64 r/\Hid (∃ orv osv,RunD w W7 wr gq x.replicas x.slots r r orv osv ov)) (fun i _=>3 - (intOf i).toNat)
    case atStart=>exact ⟨0,mE _,rfl,Ye⟩
    case round =>
     obtain ⟨r,hr,rfl,HI⟩:=hrel
     by_cases Kn:r < 3
     ·obtain ⟨orv,osv,hD⟩:=HI.out
      have Rb:r < x.replicas.length:=by rw [Gn.out];exact Kn
      have Ge:r < x.slots.length:=by rw [Ra.out];exact Kn
      have Go:(r:Int) < x.replicas.length:=by omega
      have Yf:(r:Int) < x.slots.length:=by omega
      have hN:=Kb.out.net.same (hD.same.mono (by simp) (mC _))
      obtain ⟨gr,cr,lu0,Yu,wv0,gv0,nv0,er',Yg,Yv,Kk,Hx,-,curr,Yh⟩:=hN.repAt Rb
      obtain ⟨rfl,rfl⟩:B0=some ⟨gr,0,none⟩/\e0=cr:=by cases er';exact ⟨rfl,rfl⟩
      obtain ⟨rk,Gp⟩:=mK (x.replicas[r])
      rw [Gp] at Hx Kk
      obtain ⟨F0,n0,q0,F1,q1,F2,q2,F3,q3,F4,q4,rfl,rfl,rfl,rfl,rfl⟩:=Kk.forms
      have p0:wr.cell? ⟨gr,r*10,none⟩=some (.int .i64 rk.me):=Hx 0 _ rfl
      have p1:wr.cell? ⟨gr,r*10+1,none⟩=some (.int .i64 rk.kept.view):=Hx 1 _ rfl
      have p2:wr.cell? ⟨gr,r*10+2,none⟩=some (.int .i64 rk.kept.normal):=Hx 2 _ rfl
      have p3:wr.cell? ⟨gr,r*10+3,none⟩=some (.bool rk.kept.calm):=Hx 3 _ rfl
      have p4:wr.cell? ⟨gr,r*10+4,none⟩=some (.slice F0 n0 q0):=Hx 4 _ rfl
      have p5:wr.cell? ⟨gr,r*10+5,none⟩=some (.int .i64 rk.kept.commit):=Hx 5 _ rfl
      have p6:wr.cell? ⟨gr,r*10+6,none⟩=some (.slice F1 rk.have_.length q1):=Hx 6 _ rfl
      have p7:wr.cell? ⟨gr,r*10+7,none⟩=some (.slice F2 rk.wants.length q2):=Hx 7 _ rfl
      have p8:wr.cell? ⟨gr,r*10+8,none⟩=some (.slice F3 rk.gives.length q3):=Hx 8 _ rfl
      have p9:wr.cell? ⟨gr,r*10+9,none⟩=some (.slice F4 rk.given.length q4):=Hx 9 _ rfl
      have HD:=mA hD
      have Yi:=mA Kk
      have Yj:=mA Gp
      clear hD hN er' Yg Kk Hx Yh Gp HI
      go_upto_region 27 with fail
      have Hc:=zAa wr (.cells (rN rk F0 n0 q0 F1 q1 F2 q2 F3 q3 F4 q4) 49)
      have Hz:=Blk.new wr 49 (rN rk F0 n0 q0 F1 q1 F2 q2 F3 q3 F4 q4)
      have hD:=HD.out.below Hc
      have Kk:=Yi.out.below Hc
      obtain ⟨Wd,Kj⟩:=mJ (wr.alloc (.cells (rN rk F0 n0 q0 F1 q1 F2 q2 F3 q3 F4 q4) 49))
      rw [<- Kj] at Hc Hz hD Kk ⊢
      obtain ⟨css,Gq⟩:=hD.reps
      have Kt:(x.replicas.take r).length=r:=by rw [List.length_take];omega
      obtain ⟨Ao,co,eor⟩:=Gq.form
      rw [Kt] at eor
      subst eor
      have d5:=cz1 hD.out
      obtain ⟨b0,b1,b2,b3,b4,b5,b6,b7,b8,b9⟩:=cz10 Hz
      have Yk:=mA hD
      have Gr:=mA Kk
      have Gs:=mA Gq
      have Rc:=mA Kt
      clear p0 p1 p2 p3 p4 p5 p6 p7 p8 p9 Hc Hz hD Kk Gq Kj d0 Kt
      go_wp2_with fail
      obtain ⟨S,Hd⟩:∃ S:World->Prop,S=fun w'=>w'.cell? ⟨gq,0,none⟩=some (.slice Ao r co):=⟨_,rfl⟩
      have Hb:S Wd.drew:=by rw [Hd];exact d5
      refine zAq S 7 (by kernel_rfl) (fun Ha=>?_)
      change wpAnyE _ _ _ _ _ _ _ _ _ Wd.drew
      refine tkEs 14 [0,1] (by kernel_rfl) (fun _ _ _ _ _ h=>h) Ha Hb ?_
      iterate 2
       refine tkc (v:=?_) rfl (Or.inl ⟨by rfl,?_⟩) ?_
       rotate_left
       ·(intro wv He;rw [Hd] at He;have s0:=He;go_simp;(try with_reducible rfl))
       (try simp only [Act.put,zp1,zp2,zp3])
      refine tkz (fun Ha=>?_)
      refine alE 2 (by kernel_rfl) (wpOp_step (o:=_) rfl fun KA Hk=>?_)
      go_simp
      refine Hk _ _ ⟨.inr Hb,?_⟩
      have Ha:=Ha.set (i:=2) (by rw [<- List.contains_iff_mem];kernel_rfl)
      (try simp only [Act.put,zp1,zp2,zp3])
      have Hv:Below Wd.heap.size Wd Wd.drew:=(mG _ _).drew
      have Ku:=Yk.out.below Hv
      refine alE 3 (by kernel_rfl) (wpOp_step (o:=_) rfl fun KB Hl=>?_)
      go_simp
      refine (zNf F0 n0 q0 F1 rk.have_.length q1 F2 rk.wants.length q2 F3 rk.gives.length q3 F4 rk.given.length q4 rk Wd.drew 0 (Gr.out.below Hv)).mono ?_;rintro en x1 ⟨⟨lu,hu,wu,gu,nu,rfl,ho,-⟩,k1⟩
      obtain ⟨E0,m0,z0,E1,z1,E2,z2,E3,z3,E4,z4,rfl,rfl,rfl,rfl,rfl⟩:=ho.is.forms
      have Kg:=Ku.below k1
      have g5:=cz1 Kg.out
      have Hb:S x1:=by rw [Hd];exact g5
      refine Hl _ _ ⟨.inr Hb,?_⟩
      have Ha:=Ha.set (i:=3) (by rw [<- List.contains_iff_mem];kernel_rfl)
      (try simp only [Act.put,zp1,zp2,zp3])
      refine alE 4 (by kernel_rfl) (wpOp_step (o:=_) rfl fun KC Hm=>?_)
      go_simp
      have Hc:=zAa x1 (.cells (rN rk E0 m0 z0 E1 z1 E2 z2 E3 z3 E4 z4) 49)
      have Hr:=Kg.below Hc
      have g6:=cz1 Hr.out
      have Hb:S (x1.alloc (.cells (rN rk E0 m0 z0 E1 z1 E2 z2 E3 z3 E4 z4) 49)):=by rw [Hd];exact g6
      refine Hm _ _ ⟨.inr Hb,?_⟩
      have Ha:=Ha.set (i:=4) (by rw [<- List.contains_iff_mem];kernel_rfl)
      (try simp only [Act.put,zp1,zp2,zp3])
      have Kh:=Gs.out.same (B:=0) (Ts:=[9,3,4,44,49]) (by simp) (Same.below (Hv.trans (k1.trans (Hc.mono k1.size)))) (fun _ _ h=>h.same (Ts:=[9,3,4,44]) (by simp) (Same.below (Hv.trans (k1.trans (Hc.mono k1.size)))))
      refine alE 5 (by kernel_rfl) (wpOp_step (o:=_) rfl fun KD Ht=>?_)
      rw [if_pos (by rfl)]
      refine zHt _ (.tmp 103) (.tmp 106) 25 rfl zTd W7.heap.size (.slice Ao r co) r css.flatten rfl (by have:=Kh.row;rwa [Rc.out] at this) (.slice (some ⟨x1.heap.size,0,none⟩) 1 1) 1 (repV rk (.slice E0 m0 z0) (.slice E1 rk.have_.length z1) (.slice E2 rk.wants.length z2) (.slice E3 rk.gives.length z3) (.slice E4 rk.given.length z4)) rfl (zMd rfl) (zCo ho.is) (by unfold maxLen;omega) (by omega) Hr.same.size ?_
      intro v9 x4 Kv Hj _
      obtain ⟨A9,c9,rfl,_,_,_,_⟩:=zAg Kv
      have Hi:=Hr.push (by omega) Nz Kh Rc.out.symm ⟨_,_,_,_,_,rfl,ho.is.below Hc⟩ (by unfold R47;omega) Kv Hj Rb Yj.out
      have Hu:=zAc Hr.out (Ts:=[32]) (Same.own Kh.row Hj (mE _) (by decide)) (by simp)
      have z5:=cz1 Hu
      have zz:=Hu.frozen
      have zl:=Hu.lt
      have Hb:S x4:=by rw [Hd];exact z5
      refine Ht _ _ ⟨.inr Hb,?_⟩
      have Ha:=Ha.set (i:=5) (by rw [<- List.contains_iff_mem];kernel_rfl)
      (try simp only [Act.put,zp1,zp2,zp3])
      refine tkE 6 14 (v:=?_) rfl (by kernel_rfl) (fun _ _ _ h=>h) (Or.inl ⟨by rfl,?_⟩) Ha Hb (fun Ha=>?_)
      rotate_left
      ·(intro wv He;rw [Hd] at He;have s0:=He;go_simp;(try with_reducible rfl))
      (try simp only [Act.put,zp1,zp2,zp3])
      refine alE 7 (by kernel_rfl) (wpOp_step (o:=_) rfl fun KE Vm=>?_)
      go_simp
      refine Vm _ _ ⟨.inl rfl,zAp (by kernel_rfl) ?_ _⟩
      (try simp only [Act.put,zp1,zp2,zp3])
      obtain ⟨W8,Vn⟩:=mJ (x4.setCell ⟨gq,0,none⟩ (.slice A9 (r+1) c9))
      change Exit.then _ _ _ _ (x4.setCell ⟨gq,0,none⟩ (.slice A9 (r+1) c9))
      rw [<- Vn] at Hi ⊢
      have Vo:=mA Hi
      clear Vn Hi Hu z5 zz zl Hb Hk Hl Hm Ht Vm Hd Ha Hc Kg Hr Ku Kv Hj d5 g5 g6 Kh ho k1 Hv b0 b1 b2 b3 b4 b5 b6 b7 b8 b9
      obtain ⟨gs,cs',u,es,Yw,Yx,hu,Re,Yl,curs,Rf⟩:=Kb.out.net.slotAt Ge
      obtain ⟨rfl,rfl⟩:B1=some ⟨gs,0,none⟩/\e1=cs':=by cases es;exact ⟨rfl,rfl⟩
      obtain ⟨Au,nu,cu,rfl⟩:=hu.form
      obtain ⟨-,d1⟩:=cz2 Kb.out.net.box
      have Gt:=fun (W:World) (h:Same [87,49,42,137,92,66,9,3,4,44,33] 0 W7 W)=>(zDa Kb.out.net.box h (by simp) 1).trans d1
      have Gu:=fun (W:World) (h:Same [87,49,42,137,92,66,9,3,4,44,33] 0 W7 W)=>(zDa Rf h (by simp) r).trans Re
      have Rg:=fun (W:World) (h:Same [87,49,42,137,92,66,9,3,4,44,33] 0 W7 W)=>hu.same (Ts:=[87,49,42,137,92,66,9,3,4,44,33]) (by simp) h
      obtain ⟨css2,Hp⟩:=Vo.out.slots
      have Kt:(x.slots.take r).length=r:=by rw [List.length_take];omega
      obtain ⟨Bo,bo,eos⟩:=Hp.form
      rw [Kt] at eos
      subst eos
      obtain ⟨-,d5⟩:=cz2 Vo.out.out
      have d6:=Gt _ Vo.out.same
      have d7:=Gu _ Vo.out.same
      have Gv:=mA Gt
      have Gw:=mA Gu
      have Rh:=mA Rg
      have Gx:=mA Hp
      have Vp:=mA Kt
      clear Gt Gu Rg Hp Kt es hu Rf d1 Re Yl
      go_wp2_with fail
      obtain ⟨S,Hd⟩:∃ S:World->Prop,S=fun w'=>w'.cell? ⟨gq,1,none⟩=some (.slice Bo r bo)/\w'.cell? ⟨w.heap.size+1,1,none⟩=some (.slice (some ⟨gs,0,none⟩) x.slots.length e1)/\w'.cell? ⟨gs,r,none⟩=some (.slice Au nu cu):=⟨_,rfl⟩
      have Hb:S W8.drew:=by rw [Hd];exact ⟨d5,d6,d7⟩
      refine zAq S 13 (by kernel_rfl) (fun Ha=>?_)
      change wpAnyE _ _ _ _ _ _ _ _ _ W8.drew
      refine tkEs 14 [0,1,2,3,4,5,6,7,8] (by kernel_rfl) (fun _ _ _ _ _ h=>h) Ha Hb ?_
      iterate 9
       refine tkc (v:=?_) rfl (Or.inl ⟨by rfl,?_⟩) ?_
       rotate_left
       ·(intro wv He;rw [Hd] at He;obtain ⟨s0,s1,s2⟩:=He;go_simp;(try with_reducible rfl))
       (try simp only [Act.put,zp1,zp2,zp3])
      refine tkz (fun Ha=>?_)
      have Hv:Below W8.heap.size W8 W8.drew:=(mG _ _).drew
      have Ku:=Vo.out.below Hv
      refine alE 9 (by kernel_rfl) (wpOp_step (o:=_) rfl fun KA Hk=>?_)
      go_simp
      refine (zAl _ x.slots[r] W8.drew 0 (Rh.out _ Ku.same)).mono ?_;rintro en x1 ⟨⟨u1,rfl,Ko⟩,k1⟩
      have Hs:x.slots[r].length*16<=R47/\∀ s ∈ x.slots[r],s.size<=R47:=by
       have h:=Rh.out _ Ku.same
       obtain ⟨_,h2,h3⟩:=h
       exact ⟨h2,h3⟩
      have Ri:=zOt Ko rfl Hs.1 Hs.2
      obtain ⟨Ac,cc,rfl,_,_,_,_⟩:=zAg Ko
      have Kg:=Ku.below k1
      obtain ⟨-,g5⟩:=cz2 Kg.out
      have Hb:S x1:=by rw [Hd];exact ⟨g5,Gv.out _ Kg.same,Gw.out _ Kg.same⟩
      refine Hk _ _ ⟨.inr Hb,?_⟩
      have Ha:=Ha.set (i:=9) (by rw [<- List.contains_iff_mem];kernel_rfl)
      (try simp only [Act.put,zp1,zp2,zp3])
      refine alE 10 (by kernel_rfl) (wpOp_step (o:=_) rfl fun KB Hl=>?_)
      go_simp
      have Hc:=zAa x1 (.cells #[.slice Ac x.slots[r].length cc] 42)
      have Hr:=Kg.below Hc
      obtain ⟨-,g6⟩:=cz2 Hr.out
      have Hb:S (x1.alloc (.cells #[.slice Ac x.slots[r].length cc] 42)):=by rw [Hd];exact ⟨g6,Gv.out _ Hr.same,Gw.out _ Hr.same⟩
      refine Hl _ _ ⟨.inr Hb,?_⟩
      have Ha:=Ha.set (i:=10) (by rw [<- List.contains_iff_mem];kernel_rfl)
      (try simp only [Act.put,zp1,zp2,zp3])
      have Kc:=Gx.out.same (B:=0) (Ts:=[9,42]) (by simp) (Same.below (Hv.trans (k1.trans (Hc.mono k1.size)))) (fun _ _ h=>h.same (Ts:=[9]) (by simp) (Same.below (Hv.trans (k1.trans (Hc.mono k1.size)))))
      refine alE 11 (by kernel_rfl) (wpOp_step (o:=_) rfl fun KC Hm=>?_)
      rw [if_pos (by rfl)]
      refine zHt _ (.tmp 110) (.tmp 119) 26 rfl zLm W7.heap.size (.slice Bo r bo) r css2.flatten rfl (by have:=Kc.row;rwa [Vp.out] at this) (.slice (some ⟨x1.heap.size,0,none⟩) 1 1) 1 [.slice Ac x.slots[r].length cc] rfl zOx (yAf rfl) (by unfold maxLen;omega) (by omega) Hr.same.size ?_
      intro v9 x4 Kv Hj _
      obtain ⟨A9,c9,rfl,_,_,_,_⟩:=zAg Kv
      have Hi:=Hr.pushS (by omega) Nz Kc Vp.out.symm ⟨_,rfl,Ri.below Hc⟩ (by unfold R47;omega) Kv Hj Ge rfl
      have Hu:=zAc Hr.out (Ts:=[32]) (Same.own Kc.row Hj (mE _) (by decide)) (by simp)
      have Kw:=Hr.same.low ((mG W7.heap.size _).grown Hj Hr.same.size (fun q hq=>(Kc.row.lt q hq).1))
      obtain ⟨-,z5⟩:=cz2 Hu
      have zz:=Hu.frozen
      have zl:=Hu.lt
      have Hb:S x4:=by rw [Hd];exact ⟨z5,Gv.out _ Kw,Gw.out _ Kw⟩
      refine Hm _ _ ⟨.inr Hb,?_⟩
      have Ha:=Ha.set (i:=11) (by rw [<- List.contains_iff_mem];kernel_rfl)
      (try simp only [Act.put,zp1,zp2,zp3])
      refine tkE 12 14 (v:=?_) rfl (by kernel_rfl) (fun _ _ _ h=>h) (Or.inl ⟨by rfl,?_⟩) Ha Hb (fun Ha=>?_)
      rotate_left
      ·(intro wv He;rw [Hd] at He;obtain ⟨s0,s1,s2⟩:=He;go_simp;(try with_reducible rfl))
      (try simp only [Act.put,zp1,zp2,zp3])
      refine alE 13 (by kernel_rfl) (wpOp_step (o:=_) rfl fun KD Ht=>?_)
      go_simp
      refine Ht _ _ ⟨.inl rfl,zAp (by kernel_rfl) ?_ _⟩
      (try simp only [Act.put,zp1,zp2,zp3])
      obtain ⟨W9,Kx⟩:=mJ (x4.setCell ⟨gq,1,none⟩ (.slice A9 (r+1) c9))
      change Exit.inBlock _ _ _ _ (x4.setCell ⟨gq,1,none⟩ (.slice A9 (r+1) c9))
      rw [<- Kx] at Hi ⊢
      have Hq:=mA Hi
      clear Kx Hi Hu z5 zz zl Hb Hk Hl Hm Ht Hd Ha Hc Kg Hr Ku Kv Hj d5 d6 d7 g5 g6 Kc k1 Hv Kw Ko Ri Hs
      go_wp2_with fail
      go_roundw
      case rel=>(repeat apply Exists.intro);exact ⟨⟨r+1,by omega,rfl,mA ⟨_,_,Hq.out⟩⟩,rfl⟩
      case measure=>simp [intOf];omega
     have Vv:r=3:=by omega
     subst Vv
     have Go:¬ ((3:Int) < x.replicas.length):=by rw [Gn.out];decide
     obtain ⟨orv,osv,hD⟩:=HI.out
     obtain ⟨W8,Vn⟩:∃ W:World,W=wr:=⟨_,rfl⟩
     rw [<- Vn] at hD ⊢
     clear Vn HI
     obtain ⟨cs1,Vw⟩:=hD.reps
     obtain ⟨cs2,Vx⟩:=hD.slots
     rw [List.take_of_length_le (by rw [Gn.out];omega)] at Vw
     rw [List.take_of_length_le (by rw [Ra.out];omega)] at Vx
     obtain ⟨O0,o0,rfl⟩:=Vw.form
     obtain ⟨O1,o1,rfl⟩:=Vx.form
     obtain ⟨Ac,cc,rfl,_,_,_,_⟩:=zAg Kb.out.codes
     obtain ⟨-,-,d2,d3,d4⟩:=cz5 Kb.out.net.box
     have d2:=(zDa Kb.out.net.box hD.same (by simp) 2).trans d2
     have d3:=(zDa Kb.out.net.box hD.same (by simp) 3).trans d3
     have d4:=(zDa Kb.out.net.box hD.same (by simp) 4).trans d4
     obtain ⟨-,-,z2,z3,z4⟩:=cz5 hD.out
     have zz:=hD.out.frozen
     have zl:=hD.out.lt
     have Vq:=mA hD
     have Ym:=mA Vw
     have Yn:=mA Vx
     have Ke:w.heap.size+1≠gq:=by omega
     clear hD Vw Vx
     go_wp2_with fail
     obtain ⟨S,Hd⟩:∃ S:World->Prop,S=fun w'=>w'.cell? ⟨w.heap.size+1,2,none⟩=some (.slice B2 x.flying.length e2)/\w'.cell? ⟨w.heap.size+1,3,none⟩=some (.slice B3 x.clients.length e3)/\w'.cell? ⟨w.heap.size+1,4,none⟩=some (.slice B4 x.told.length e4):=⟨_,rfl⟩
     have Hb:S W8.drew:=by rw [Hd];exact ⟨d2,d3,d4⟩
     have Ky:S (W8.drew.setCell ⟨gq,2,none⟩ (.slice B2 x.flying.length e2)):=by rw [Hd];exact ⟨(zAm Ke).trans d2,(zAm Ke).trans d3,(zAm Ke).trans d4⟩
     have Kz:S ((W8.drew.setCell ⟨gq,2,none⟩ (.slice B2 x.flying.length e2)).setCell ⟨gq,3,none⟩ (.slice B3 x.clients.length e3)):=by rw [Hd] at Ky ⊢;exact ⟨(zAm Ke).trans Ky.1,(zAm Ke).trans Ky.2.1,(zAm Ke).trans Ky.2.2⟩
     have Rj:S (((W8.drew.setCell ⟨gq,2,none⟩ (.slice B2 x.flying.length e2)).setCell ⟨gq,3,none⟩ (.slice B3 x.clients.length e3)).setCell ⟨gq,4,none⟩ (.slice B4 x.told.length e4)):=by rw [Hd] at Kz ⊢;exact ⟨(zAm Ke).trans Kz.1,(zAm Ke).trans Kz.2.1,(zAm Ke).trans Kz.2.2⟩
     refine wp_region_held (S:=S) (by kernel_rfl) ?_
     change wpAnyH _ _ _ _ _ _ _ _ W8.drew
     refine tkHs [0,1,2,3,4,5,6,7,8,9,10,11,12] (by kernel_rfl) (fun _ _ _ _ _ h=>h) Hb ?_
     iterate 13
      refine tkc (v:=?_) rfl (Or.inl ⟨by rfl,?_⟩) ?_
      rotate_left
      ·(intro wv He;rw [Hd] at He;obtain ⟨s0,s1,s2⟩:=He;go_simp;(try with_reducible rfl))
      (try simp only [Act.put,zp1,zp2,zp3])
     refine tkz ?_
     refine alH 13 (by kernel_rfl) (wpOp_step (o:=_) rfl fun KA Hk=>?_)
     go_simp
     refine Hk _ _ ⟨Ky,?_⟩
     (try simp only [Act.put,zp1,zp2,zp3])
     have Hb:=Ky
     refine tkH 14 (v:=?_) rfl (by kernel_rfl) (fun _ _ _ h=>h) (Or.inl ⟨by rfl,?_⟩) Hb ?_
     rotate_left
     ·(intro wv He;rw [Hd] at He;obtain ⟨s0,s1,s2⟩:=He;go_simp;(try with_reducible rfl))
     (try simp only [Act.put,zp1,zp2,zp3])
     refine alH 15 (by kernel_rfl) (wpOp_step (o:=_) rfl fun KB Hl=>?_)
     go_simp
     refine Hl _ _ ⟨Kz,?_⟩
     (try simp only [Act.put,zp1,zp2,zp3])
     have Hb:=Kz
     refine tkH 16 (v:=?_) rfl (by kernel_rfl) (fun _ _ _ h=>h) (Or.inl ⟨by rfl,?_⟩) Hb ?_
     rotate_left
     ·(intro wv He;rw [Hd] at He;obtain ⟨s0,s1,s2⟩:=He;go_simp;(try with_reducible rfl))
     (try simp only [Act.put,zp1,zp2,zp3])
     refine alH 17 (by kernel_rfl) (wpOp_step (o:=_) rfl fun KC Hm=>?_)
     go_simp
     refine Hm _ _ ⟨Rj,?_⟩
     refine wpAnyH_done (by kernel_rfl) ?_ _
     (try simp only [Act.put,zp1,zp2,zp3])
     have Gy:=(Vq.out.out.drew).set_ 2 (.slice B2 x.flying.length e2)
     have Vh:=Gy.set_ 3 (.slice B3 x.clients.length e3)
     have Rk:=Vh.set_ 4 (.slice B4 x.told.length e4)
     have Gz:Same [87,49,42,137,92,66,9,3,4,44,33] 0 W8 (((W8.drew.setCell ⟨gq,2,none⟩ (.slice B2 x.flying.length e2)).setCell ⟨gq,3,none⟩ (.slice B3 x.clients.length e3)).setCell ⟨gq,4,none⟩ (.slice B4 x.told.length e4)) :=
      (((Same.drew W8).trans (Same.set_ Vq.out.out.drew (mE _) (by decide) 2 _)).trans (Same.set_ Gy (mE _) (by decide) 3 _)).trans (Same.set_ Vh (mE _) (by decide) 4 _)
     have Na:w.heap.size<=gq:=by omega
     have Va:=((Vq.out.low.drew.setCell (p:=⟨gq,2,none⟩) Na (.slice B2 x.flying.length e2)).setCell (p:=⟨gq,3,none⟩) Na (.slice B3 x.clients.length e3)).setCell (p:=⟨gq,4,none⟩) Na (.slice B4 x.told.length e4)
     have Vy:w.heap.size≠gq:=by omega
     have Vb:=Vq.out.res
     obtain ⟨W9,Kx⟩:=mJ (((W8.drew.setCell ⟨gq,2,none⟩ (.slice B2 x.flying.length e2)).setCell ⟨gq,3,none⟩ (.slice B3 x.clients.length e3)).setCell ⟨gq,4,none⟩ (.slice B4 x.told.length e4))
     have Ho:Blk W9 w.heap.size 32 #[.slice none 0 0,.slice none 0 0,.slice none 0 0,.slice none 0 0,.slice none 0 0,.slice none 0 0]:=by
      rw [Kx]
      unfold Blk at Vb ⊢
      rw [<- Vb]
      exact ((Below.heap_setCell _ ⟨gq,4,none⟩ _ w.heap.size Vy).trans (Below.heap_setCell _ ⟨gq,3,none⟩ _ w.heap.size Vy)).trans (Below.heap_setCell _ ⟨gq,2,none⟩ _ w.heap.size Vy)
     have Kd:Blk W9 gq 32 #[.slice O0 x.replicas.length o0,.slice O1 x.slots.length o1,.slice B2 x.flying.length e2,.slice B3 x.clients.length e3,.slice B4 x.told.length e4,.slice Ac codes.length cc]:=by
      rw [Kx];exact Rk
     change Exit.then _ _ _ _ (((W8.drew.setCell ⟨gq,2,none⟩ (.slice B2 x.flying.length e2)).setCell ⟨gq,3,none⟩ (.slice B3 x.clients.length e3)).setCell ⟨gq,4,none⟩ (.slice B4 x.told.length e4))
     rw [<- Kx] at Gz Va ⊢
     obtain ⟨y0,y1,y2,y3,y4,y5⟩:=cz6 Kd
     obtain ⟨r0,r1,r2,r3,r4,r5⟩:=cz6 Ho
     have rz:=Ho.frozen
     have rl:=Ho.lt
     have yl:=Kd.lt
     have H9:=mA (mB Gz (mB Va (mB Ho Vy)))
     clear Hb Ky Kz Rj Hk Hl Hm Hd Gy Vh Rk Gz Va Vb Ho Kd Kx d2 d3 d4 z2 z3 z4 zz zl Ke
     go_wp2
     refine bodyPost_ret (v:=.tuple #[.agg #[.slice O0 x.replicas.length o0,.slice O1 x.slots.length o1,.slice B2 x.flying.length e2,.slice B3 x.clients.length e3,.slice B4 x.told.length e4,.slice Ac codes.length cc],.int .i64 0]) (by simp [results,Tryd.results12,go_sem,r0,r1,r2,r3,r4,r5]) rfl ?_
     have hs:=H9.out.1.trans (yAg H9.out.2.2.1 (.slice O0 x.replicas.length o0) (.slice O1 x.slots.length o1) (.slice B2 x.flying.length e2) (.slice B3 x.clients.length e3) (.slice B4 x.told.length e4) (.slice Ac codes.length cc))
     have Yo:=Vq.out.same.trans hs
     have Vc:codes.length<=300:=by have:=Scu.steps_codes l (Scu.netNew k);rw [HY.out] at this;have h:codes.length=l.length:=this;omega
     have hO:=yAh Ym.out Yn.out Kb.out.net Kb.out.codes Vc hs Yo
     have hL:=zNq H9.out.2.1 (mC _) (.slice O0 x.replicas.length o0) (.slice O1 x.slots.length o1) (.slice B2 x.flying.length e2) (.slice B3 x.clients.length e3) (.slice B4 x.told.length e4) (.slice Ac codes.length cc)
     exact ⟨⟨_,_,_,_,_,_,rfl,hO⟩,hL⟩
theorem zXb (a b:Scu.Told):decide (a=b)=(decide (a.request=b.request) && decide (a.reply=b.reply)):=by
 cases a;cases b
 rw [Bool.eq_iff_iff]
 simp
theorem zNr (a b:Scu.Told) (W:World):(binOp .neq 66 (.agg #[.int .i64 a.request.client,.int .i64 a.request.num,.int .i64 a.request.op.kind,.int .i64 a.request.op.at_,.int .i64 a.request.op.snap,.string a.request.op.data,.int .i64 a.reply.code,.int .i64 a.reply.n,.string a.reply.data]) (.agg #[.int .i64 b.request.client,.int .i64 b.request.num,.int .i64 b.request.op.kind,.int .i64 b.request.op.at_,.int .i64 b.request.op.snap,.string b.request.op.data,.int .i64 b.reply.code,.int .i64 b.reply.n,.string b.reply.data])).run Tryd.prog W=.ok (.bool (!decide (a=b))) W:=by
 rw [zXb,zJe,zXj,zMw,<- zFj,<- zFj]
 simp [go_sem]
 repeat' split
 all_goals simp_all
theorem zTs (v u:Value) (xs ys:List Int) (w:World) (B B':Nat) (hv:IsOnes 33 8 (Value.int .i64) w B v xs) (hu:IsOnes 33 8 (Value.int .i64) w B' u ys) :
 Calls Tryd.prog 18 #[v,u] w fun e w'=>e=.returned (.bool (decide (xs=ys)))/\∃ n,w'=w.drewN n:=by
 obtain ⟨⟨A,c,rfl,_,hr⟩,hl⟩:=hv
 obtain ⟨⟨A',c',rfl,_,He⟩,Hf⟩:=hu
 unfold R47 at hl Hf
 by_cases he:xs.length=ys.length
 ·have Hg:((xs.length:Int) != (ys.length:Int))=false:=by simp [he]
  have HE:=mA he
  clear he
  go_enter Tryd.func18,Tryd.ntmps18
  go_wp2
  go_loopw [13] (fun i wr=>∃ k:Nat,k<=xs.length/\i=.int .i64 k/\Hid (xs.take k=ys.take k)/\∃ n,wr=w.drewN n) (fun i _=>xs.length - (intOf i).toNat)
  case atStart=>exact ⟨0,mE _,rfl,rfl,0,rfl⟩
  case round =>
   obtain ⟨k,hk,rfl,ht,n,rfl⟩:=hrel
   by_cases Hb:k < xs.length
   ·have Hc:(k:Int) < (xs.length:Int):=by omega
    have hy:k < ys.length:=by have:=HE.out;omega
    have Hk:(k:Int) < (ys.length:Int):=by omega
    obtain ⟨g,o,rfl,_,hc⟩:=zLp hr Hb
    obtain ⟨g',o',rfl,_,Hl⟩:=zLp He hy
    by_cases hx:xs[k]=ys[k]
    ·have hb:(xs[k] != ys[k])=false:=by simp [hx]
     have HX:=mA hx
     clear hx
     go_wp2
     go_quiet (fail)
     go_wp2
     exact ⟨⟨k+1,Hb,by go_num,zFi ht.out Hb hy HX.out,_,rfl⟩,by simp only [intOf];omega⟩
    have hb:(xs[k] != ys[k])=true:=by simp [hx]
    have Ha:decide (xs=ys)=false:=by
     rw [decide_eq_false_iff_not]
     intro e
     subst e
     exact hx rfl
    have Hh:=mA Ha
    clear Ha
    go_wp2
    go_quiet (fail)
    go_wp2
    go_ret
    exact ⟨zAb (zBt Hh.out.symm),_,World.drewN_drewN _ _ _⟩
   have Hi:k=xs.length:=by omega
   have Hc:(xs.length:Int)<=(k:Int):=by omega
   have Hd:decide (xs=ys)=true:=by
    rw [decide_eq_true_eq]
    have h1:=ht.out
    rw [List.take_of_length_le (by omega),List.take_of_length_le (by have:=HE.out;omega)] at h1
    exact h1
   have Hj:=mA Hd
   clear Hi Hd
   go_wp2
   go_ret
   exact ⟨zAb (zBt Hj.out.symm),_,rfl⟩
 have Hg:((xs.length:Int) != (ys.length:Int))=true:=by
  rw [bne_iff_ne];omega
 have Ha:decide (xs=ys)=false:=by
  rw [decide_eq_false_iff_not]
  intro e
  exact he (by rw [e])
 rw [Ha]
 clear he
 go_enter Tryd.func18,Tryd.ntmps18
 go_wp2
 go_ret
 exact ⟨rfl,0,rfl⟩
theorem zTt (v u:Value) (xs ys:List Scu.Told) (w:World) (hv:IsRow 66 9 88 ToldE w 0 v xs) (hu:IsRow 66 9 88 ToldE w 0 u ys) :
 Calls Tryd.prog 26 #[v,u] w fun e w'=>e=.returned (.bool (decide (xs=ys)))/\∃ n,w'=w.drewN n:=by
 obtain ⟨⟨A,c,css,rfl,_,h2,h3,hr,h4⟩,hl⟩:=hv
 obtain ⟨⟨A',c',css',rfl,_,Hh,Hi,Hj,Hk⟩,Hm⟩:=hu
 unfold R47 at hl Hm
 have R1:=mA (mB h2 (mB h3 (mB hr h4)))
 have R2:=mA (mB Hh (mB Hi (mB Hj Hk)))
 clear h2 h3 hr h4 Hh Hi Hj Hk
 by_cases he:xs.length=ys.length
 ·have Hn:((xs.length:Int) != (ys.length:Int))=false:=by simp [he]
  have HE:=mA he
  clear he
  go_enter Tryd.func26,Tryd.ntmps26
  go_wp2
  go_loopw [13] (fun i wr=>∃ k:Nat,k<=xs.length/\i=.int .i64 k/\Hid (xs.take k=ys.take k)/\∃ n,wr=w.drewN n) (fun i _=>xs.length - (intOf i).toNat)
  case atStart=>exact ⟨0,mE _,rfl,rfl,0,rfl⟩
  case round =>
   obtain ⟨k,hk,rfl,ht,n,rfl⟩:=hrel
   by_cases He:k < xs.length
   ·have Hf:(k:Int) < (xs.length:Int):=by omega
    have hy:k < ys.length:=by have:=HE.out;omega
    have Hs:(k:Int) < (ys.length:Int):=by omega
    obtain ⟨g,o,cs1,rfl,hg,_,hc,Hg⟩:=zDo R1.out.1 R1.out.2.1 (by decide) R1.out.2.2.1 R1.out.2.2.2 He
    obtain ⟨g',o',cs2,rfl,Ht,_,Ha,Hb⟩:=zDo R2.out.1 R2.out.2.1 (by decide) R2.out.2.2.1 R2.out.2.2.2 hy
    obtain ⟨a,ha⟩:=mK (xs[k])
    obtain ⟨b,hb⟩:=mK (ys[k])
    rw [ha] at Hg
    rw [hb] at Hb
    have e1:cs1=toldV a:=Hg
    have e2:cs2=toldV b:=Hb
    subst e1 e2
    have c0:w.cell? ⟨g,o+k*9,none⟩=some (.int .i64 a.request.client):=hc 0 _ rfl
    have c1:w.cell? ⟨g,o+k*9+1,none⟩=some (.int .i64 a.request.num):=hc 1 _ rfl
    have c2:w.cell? ⟨g,o+k*9+2,none⟩=some (.int .i64 a.request.op.kind):=hc 2 _ rfl
    have c3:w.cell? ⟨g,o+k*9+3,none⟩=some (.int .i64 a.request.op.at_):=hc 3 _ rfl
    have c4:w.cell? ⟨g,o+k*9+4,none⟩=some (.int .i64 a.request.op.snap):=hc 4 _ rfl
    have c5:w.cell? ⟨g,o+k*9+5,none⟩=some (.string a.request.op.data):=hc 5 _ rfl
    have c6:w.cell? ⟨g,o+k*9+6,none⟩=some (.int .i64 a.reply.code):=hc 6 _ rfl
    have c7:w.cell? ⟨g,o+k*9+7,none⟩=some (.int .i64 a.reply.n):=hc 7 _ rfl
    have c8:w.cell? ⟨g,o+k*9+8,none⟩=some (.string a.reply.data):=hc 8 _ rfl
    have z0:w.cell? ⟨g',o'+k*9,none⟩=some (.int .i64 b.request.client):=Ha 0 _ rfl
    have z1:w.cell? ⟨g',o'+k*9+1,none⟩=some (.int .i64 b.request.num):=Ha 1 _ rfl
    have z2:w.cell? ⟨g',o'+k*9+2,none⟩=some (.int .i64 b.request.op.kind):=Ha 2 _ rfl
    have z3:w.cell? ⟨g',o'+k*9+3,none⟩=some (.int .i64 b.request.op.at_):=Ha 3 _ rfl
    have z4:w.cell? ⟨g',o'+k*9+4,none⟩=some (.int .i64 b.request.op.snap):=Ha 4 _ rfl
    have z5:w.cell? ⟨g',o'+k*9+5,none⟩=some (.string b.request.op.data):=Ha 5 _ rfl
    have z6:w.cell? ⟨g',o'+k*9+6,none⟩=some (.int .i64 b.reply.code):=Ha 6 _ rfl
    have z7:w.cell? ⟨g',o'+k*9+7,none⟩=some (.int .i64 b.reply.n):=Ha 7 _ rfl
    have z8:w.cell? ⟨g',o'+k*9+8,none⟩=some (.string b.reply.data):=Ha 8 _ rfl
    have hq:=zNr a b
    have Hc:=mA (mB ha hb)
    clear hc Ha Hg Hb ha hb
    by_cases hx:a=b
    ·have Ho:decide (a=b)=true:=by simp [hx]
     have HX:=mA hx
     clear hx
     go_wp2
     go_quiet (fail)
     go_wp2
     exact ⟨⟨k+1,He,by go_num,zFi ht.out He hy (by rw [Hc.out.1,Hc.out.2,HX.out]),_,rfl⟩,by simp only [intOf];omega⟩
    have Ho:decide (a=b)=false:=by simp [hx]
    have Hd:decide (xs=ys)=false:=by
     rw [decide_eq_false_iff_not]
     intro e
     subst e
     exact hx (Hc.out.1.symm.trans Hc.out.2)
    have Hp:=mA Hd
    clear Hd hx
    go_wp2
    go_quiet (fail)
    go_wp2
    go_ret
    exact ⟨zAb (zBt Hp.out.symm),_,World.drewN_drewN _ _ _⟩
   have Hq:k=xs.length:=by omega
   have Hf:(xs.length:Int)<=(k:Int):=by omega
   have Hl:decide (xs=ys)=true:=by
    rw [decide_eq_true_eq]
    have h1:=ht.out
    rw [List.take_of_length_le (by omega),List.take_of_length_le (by have:=HE.out;omega)] at h1
    exact h1
   have Hr:=mA Hl
   clear Hq Hl
   go_wp2
   go_ret
   exact ⟨zAb (zBt Hr.out.symm),_,rfl⟩
 have Hn:((xs.length:Int) != (ys.length:Int))=true:=by
  rw [bne_iff_ne];omega
 have Hd:decide (xs=ys)=false:=by
  rw [decide_eq_false_iff_not]
  intro e
  exact he (by rw [e])
 rw [Hd]
 clear he
 go_enter Tryd.func26,Tryd.ntmps26
 go_wp2
 go_ret
 exact ⟨rfl,0,rfl⟩
end Go.Proofs.YtnpphdaakookcaaDoor
