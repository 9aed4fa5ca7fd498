/- Part 34: words and walks under the laws of the whole. -/
import Derived.Test.YtnpphdaakookcaaDoorQ26
import Derived.Test.YtnpphdaakookcaaDoorQ29
set_option linter.unusedVariables false
set_option linter.unusedSimpArgs false
set_option maxHeartbeats 4000000
set_option maxRecDepth 100000
namespace Go.Proofs.YtnpphdaakookcaaDoor
open Go.RowKit
theorem zWq (a:Scu.Act) (w:World) (base gx:Nat) (x:Scu.Net) (rv sv fv cv tv:Value) (hN:NetW w base gx x rv sv fv cv tv) (hb:base<=w.heap.size) (h3:x.replicas.length=3) (He:x.slots.length=3) (Hi:x.flying.length<=80) (hk:a.k < 0\/(x.flying.length:Int)<=a.k) (y:Scu.Net) (f:Int) (hy:y=x/\f=6):Calls Tryd.prog 46 #[.pointer (some ⟨gx,0,none⟩),.agg #[.int .i64 a.kind,.int .i64 a.c,.int .i64 a.r,.int .i64 a.k,.int .i64 a.n,.int .i64 a.op.kind,.int .i64 a.op.at_,.int .i64 a.op.snap,.string a.op.data]] w fun e w'=>e=.returned (.int .i64 f)/\NetE w' base gx y/\Fr base w w':=by
 by_cases h0:a.k < 0
 ·have Hg:decide (a.k < 0)=true:=by simpa using h0
  clear hk h0
  obtain ⟨B0,e0,B1,e1,B2,e2,B3,e3,B4,e4,rfl,rfl,rfl,rfl,rfl⟩:=hN.forms
  have Ha:=zAa w (.cells (aN a) 40)
  have HN:=mA (hN.below Ha)
  have HB:=mA (Blk.new w 40 (aN a))
  have Hb:=mA (Fr.of Ha hb)
  have Hf:=mA Ha
  have H3:=mA h3
  have Hh:=mA He
  have HY:=mA hy
  clear hN h3 He Ha hy
  go_enter Tryd.func46,Tryd.ntmps46
  go_upto_region 1 with fail
  obtain ⟨Wd,Hd⟩:=mJ (w.alloc (.cells (aN a) 40))
  rw [<- Hd] at HN HB Hb Hf ⊢
  clear Hd
  have Hc:=HB.out
  obtain ⟨a0,-,-,a3,a4⟩:=cz5 Hc
  obtain ⟨-,-,d2⟩:=cz3 HN.out.box
  have al:=Hc.lt
  have dl:=HN.out.box.lt
  clear Hc
  go_wp2_with fail
  go_quiet (fail)
  go_wp2
  go_ret
  exact ⟨zAb (zAd HY.out.2.symm),by rw [HY.out.1];exact HN.out.e.below (below_drewN (mG _ _) _),Hb.out.trans (Fr.of (below_drewN (mG _ _) _) (mD hb Hb.out.size))⟩
 have Hg:decide (a.k < 0)=false:=by simpa using h0
 have Hj:decide ((x.flying.length:Int)<=a.k)=true:=by rw [decide_eq_true_eq];omega
 clear h0 hk
 obtain ⟨B0,e0,B1,e1,B2,e2,B3,e3,B4,e4,rfl,rfl,rfl,rfl,rfl⟩:=hN.forms
 have Ha:=zAa w (.cells (aN a) 40)
 have HN:=mA (hN.below Ha)
 have HB:=mA (Blk.new w 40 (aN a))
 have Hb:=mA (Fr.of Ha hb)
 have Hf:=mA Ha
 have H3:=mA h3
 have Hh:=mA He
 have HY:=mA hy
 clear hN h3 He Ha hy
 go_enter Tryd.func46,Tryd.ntmps46
 go_upto_region 1 with fail
 obtain ⟨Wd,Hd⟩:=mJ (w.alloc (.cells (aN a) 40))
 rw [<- Hd] at HN HB Hb Hf ⊢
 clear Hd
 have Hc:=HB.out
 obtain ⟨a0,-,-,a3,a4⟩:=cz5 Hc
 obtain ⟨-,-,d2⟩:=cz3 HN.out.box
 have al:=Hc.lt
 have dl:=HN.out.box.lt
 clear Hc
 go_wp2_with fail
 go_quiet (fail)
 go_wp2
 go_ret
 exact ⟨zAb (zAd HY.out.2.symm),by rw [HY.out.1];exact HN.out.e.below (below_drewN (mG _ _) _),Hb.out.trans (Fr.of (below_drewN (mG _ _) _) (mD hb Hb.out.size))⟩
theorem zDs {Wd X:World} {gb:Nat} {m:Scu.Message} {Al:Option Addr} {nl cl:Nat} {b0 b1 b2 b3 b4 b5 b6 b7:Value} (h1:IsStrs Wd 0 (.slice Al nl cl) m.log) (hX:Below Wd.heap.size Wd X) (hB:Blk X gb 137 #[b0,b1,b2,b3,b4,b5,b6,b7]) (hg:Wd.heap.size<=gb) :
 Below Wd.heap.size Wd (X.setCells gb 0 [.int .i64 m.kind,.int .i64 m.from_,.int .i64 m.tq,.int .i64 m.view,.int .i64 m.normal,.int .i64 m.commit,.int .i64 m.n,.slice Al nl cl])/\Blk (X.setCells gb 0 [.int .i64 m.kind,.int .i64 m.from_,.int .i64 m.tq,.int .i64 m.view,.int .i64 m.normal,.int .i64 m.commit,.int .i64 m.n,.slice Al nl cl]) gb 137 #[.int .i64 m.kind,.int .i64 m.from_,.int .i64 m.tq,.int .i64 m.view,.int .i64 m.normal,.int .i64 m.commit,.int .i64 m.n,.slice Al nl cl]/\IsStrs (X.setCells gb 0 [.int .i64 m.kind,.int .i64 m.from_,.int .i64 m.tq,.int .i64 m.view,.int .i64 m.normal,.int .i64 m.commit,.int .i64 m.n,.slice Al nl cl]) 0 (.slice Al nl cl) m.log:=by
 have hs:Same [9] 0 X (X.setCells gb 0 [.int .i64 m.kind,.int .i64 m.from_,.int .i64 m.tq,.int .i64 m.view,.int .i64 m.normal,.int .i64 m.commit,.int .i64 m.n,.slice Al nl cl]):=Same.sets _ 0 X _ hB (by decide)
 exact ⟨zAh hg _ 0 _ _ hX,zJi (xs:=[b0,b1,b2,b3,b4,b5,b6,b7]) hB rfl,(h1.below hX).same (by simp) hs⟩
theorem zWr (a:Scu.Act) (w:World) (base gx:Nat) (x:Scu.Net) (rv sv fv cv tv:Value) (hN:NetW w base gx x rv sv fv cv tv) (hb:base<=w.heap.size) (h3:x.replicas.length=3) (Hn:x.slots.length=3) (Kh:x.flying.length<=80) (k:Nat) (Hk:a.k=k) (hk:k < x.flying.length) (Ho:a.kind=8) (Hf:x.flying.length=80) (y:Scu.Net) (f:Int) (hy:y=x/\f=7):Calls Tryd.prog 46 #[.pointer (some ⟨gx,0,none⟩),.agg #[.int .i64 a.kind,.int .i64 a.c,.int .i64 a.r,.int .i64 a.k,.int .i64 a.n,.int .i64 a.op.kind,.int .i64 a.op.at_,.int .i64 a.op.snap,.string a.op.data]] w fun e w'=>e=.returned (.int .i64 f)/\NetE w' base gx y/\Fr base w w':=by
 have Hx:(a.kind == 8)=true:=by rw [beq_iff_eq];exact Ho
 have Hy:=mA Hf
 clear Ho Hf
 have Hz:decide (a.k < 0)=false:=by rw [decide_eq_false_iff_not];omega
 have Ka:decide ((x.flying.length:Int)<=a.k)=false:=by rw [decide_eq_false_iff_not];omega
 rw [Hk] at Hz Ka
 have Kb:=mA Hk
 clear Hk
 obtain ⟨B0,e0,B1,e1,B2,e2,B3,e3,B4,e4,rfl,rfl,rfl,rfl,rfl⟩:=hN.forms
 have Hh:=zAa w (.cells (aN a) 40)
 have HN:=mA (hN.below Hh)
 have HB:=mA (Blk.new w 40 (aN a))
 have Hi:=mA (Fr.of Hh hb)
 have Hp:=mA Hh
 have H3:=mA h3
 have Ki:=mA Hn
 have HY:=mA hy
 clear hN h3 Hn Hh hy
 go_enter Tryd.func46,Tryd.ntmps46
 go_upto_region 1 with fail
 obtain ⟨Wd,Hq⟩:=mJ (w.alloc (.cells (aN a) 40))
 rw [<- Hq] at HN HB Hi Hp ⊢
 clear Hq
 have Hl:=HB.out
 obtain ⟨a0,-,-,a3,a4⟩:=cz5 Hl
 obtain ⟨-,-,d2⟩:=cz3 HN.out.box
 have al:=Hl.lt
 have dl:=HN.out.box.lt
 clear Hl
 rw [Kb.out] at a3
 obtain ⟨gf,cf,lu,ef,Kj,Hb,Hj,Hc,-,curf,Hr⟩:=HN.out.flyAt hk
 obtain ⟨rfl,rfl⟩:B2=some ⟨gf,0,none⟩/\e2=cf:=by cases ef;exact ⟨rfl,rfl⟩
 obtain ⟨Al,nl,cl,rfl⟩:=Hj.form
 obtain ⟨m,hm⟩:=mK (x.flying[k])
 rw [hm] at Hj Hc
 have t0:Wd.cell? ⟨gf,k*8,none⟩=some (.int .i64 m.kind):=Hc 0 _ rfl
 have t1:Wd.cell? ⟨gf,k*8+1,none⟩=some (.int .i64 m.from_):=Hc 1 _ rfl
 have t2:Wd.cell? ⟨gf,k*8+2,none⟩=some (.int .i64 m.tq):=Hc 2 _ rfl
 have t3:Wd.cell? ⟨gf,k*8+3,none⟩=some (.int .i64 m.view):=Hc 3 _ rfl
 have t4:Wd.cell? ⟨gf,k*8+4,none⟩=some (.int .i64 m.normal):=Hc 4 _ rfl
 have t5:Wd.cell? ⟨gf,k*8+5,none⟩=some (.int .i64 m.commit):=Hc 5 _ rfl
 have t6:Wd.cell? ⟨gf,k*8+6,none⟩=some (.int .i64 m.n):=Hc 6 _ rfl
 have t7:Wd.cell? ⟨gf,k*8+7,none⟩=some (.slice Al nl cl):=Hc 7 _ rfl
 have Kk:(k:Int) < (x.flying.length:Int):=by omega
 have Hs:=mA Hj
 have HM:=mA hm
 clear ef Hc Hj hm
 go_wp2_with fail
 go_quiet (fail)
 go_wp2_with fail
 obtain ⟨S,Hd⟩:∃ S:World->Prop,S=fun w'=>Below Wd.heap.size Wd w':=⟨_,rfl⟩
 have He:S ((Wd.drewN nq).drew):=by rw [Hd];exact (below_drewN (mG _ _) nq).drew
 refine wp_region_held (S:=S) (by kernel_rfl) ?_
 change wpAnyH _ _ _ _ _ _ _ _ ((Wd.drewN nq).drew)
 have Kc:=fun (wv:World) (Ha:Below Wd.heap.size Wd wv)=>mB (cW Ha dl d2) (mB (cW Ha al a3) (mB (cW Ha Hb t0) (mB (cW Ha Hb t1) (mB (cW Ha Hb t2) (mB (cW Ha Hb t3) (mB (cW Ha Hb t4) (mB (cW Ha Hb t5) (mB (cW Ha Hb t6) (cW Ha Hb t7)))))))))
 refine tkHs [0,1,2,3,4,5,6,7] (by kernel_rfl) (fun _ _ _ _ _ h=>h) He ?_
 iterate 8
  refine tkc (v:=?_) rfl (Or.inl ⟨by rfl,?_⟩) ?_
  rotate_left
  ·(intro wv Ha;rw [Hd] at Ha;obtain ⟨q0,q1,s0,s1,s2,s3,s4,s5,s6,s7⟩:=Kc wv Ha;go_simp;(try with_reducible rfl))
  (try simp only [Act.put,zp1,zp2,zp3])
 refine tkz ?_
 refine alH 8 (by kernel_rfl) (wpOp_step (o:=_) rfl fun KA Ht=>?_)
 go_simp
 have He:S (((Wd.drewN nq).drew).alloc (.cells #[.int .i64 0,.int .i64 0,.int .i64 0,.int .i64 0,.int .i64 0,.int .i64 0,.int .i64 0,.slice none 0 0] 137)):=by rw [Hd];exact ((below_drewN (mG _ _) nq).drew).alloc (mC _) _
 refine Ht _ _ ⟨He,?_⟩
 (try simp only [Act.put,zp1,zp2,zp3])
 refine alH 9 (by kernel_rfl) (wpOp_step (o:=_) rfl fun KB Hu=>?_)
 rw [if_pos (by rfl)]
 refine wp_store_mid 137 (.tmp 5) (.tmp 30) rfl Wd.heap.size 0 (mN m Al nl cl) rfl rfl (zAs (Blk.new' (w:=(Wd.drewN nq).drew) (g:=Wd.heap.size) (t:=137) (cs:=#[.int .i64 0,.int .i64 0,.int .i64 0,.int .i64 0,.int .i64 0,.int .i64 0,.int .i64 0,.slice none 0 0]) rfl)) (by kernel_rfl) (all_oneCell_toArray zEy) ?_
 have HQ:=mA (zDs Hs.out ((below_drewN (mG _ _) nq).drew.alloc (mC _) _) (Blk.new' (w:=(Wd.drewN nq).drew) (g:=Wd.heap.size) (t:=137) (cs:=#[.int .i64 0,.int .i64 0,.int .i64 0,.int .i64 0,.int .i64 0,.int .i64 0,.int .i64 0,.slice none 0 0]) rfl) (mC _))
 obtain ⟨W2,Hg⟩:=mJ ((((Wd.drewN nq).drew).alloc (.cells #[.int .i64 0,.int .i64 0,.int .i64 0,.int .i64 0,.int .i64 0,.int .i64 0,.int .i64 0,.slice none 0 0] 137)).setCells Wd.heap.size 0 [.int .i64 m.kind,.int .i64 m.from_,.int .i64 m.tq,.int .i64 m.view,.int .i64 m.normal,.int .i64 m.commit,.int .i64 m.n,.slice Al nl cl])
 have Hm:S W2:=by rw [Hd,Hg];rw [Hd] at He;exact zAh (mC _) _ 0 _ _ He
 rw [<- Hg] at HQ
 refine Hu _ _ ⟨by rw [Hg] at Hm;exact Hm,wpAnyH_done (by kernel_rfl) ?_ _⟩
 (try simp only [Act.put,zp1,zp2,zp3])
 change Exit.then _ _ _ _ ((((Wd.drewN nq).drew).alloc (.cells #[.int .i64 0,.int .i64 0,.int .i64 0,.int .i64 0,.int .i64 0,.int .i64 0,.int .i64 0,.slice none 0 0] 137)).setCells Wd.heap.size 0 [.int .i64 m.kind,.int .i64 m.from_,.int .i64 m.tq,.int .i64 m.view,.int .i64 m.normal,.int .i64 m.commit,.int .i64 m.n,.slice Al nl cl])
 rw [<- Hg]
 clear Hg Hm He Hd Ht Hu t0 t1 t2 t3 t4 t5 t6 t7
 obtain ⟨gm,Hv⟩:=mK (Wd.heap.size)
 have Kd:=mA (HN.out.below HQ.out.1)
 have Ke:=mA (Hi.out.trans (Fr.of HQ.out.1 (mD hb Hi.out.size)))
 have Hw:=mA HQ.out.2.1
 have Kl:=mA HQ.out.2.2
 have Km:=mA HQ.out.1
 have b0:=cW HQ.out.1 al a0
 have b3:=cW HQ.out.1 al a3
 have b4:=cW HQ.out.1 al a4
 have c2:=cW HQ.out.1 dl d2
 have bl:w.heap.size < W2.heap.size:=mF al HQ.out.1.size
 have cl2:gx < W2.heap.size:=mF dl HQ.out.1.size
 have gml:Wd.heap.size < W2.heap.size:=Hw.out.lt
 have gfm:gf < Wd.heap.size:=Hb
 have wm:w.heap.size < Wd.heap.size:=al
 have gxm:gx < Wd.heap.size:=dl
 have Kf:w.heap.size≠gf:=zAo HB.out Hr (by decide)
 have Kg:w.heap.size≠gx:=zAo HB.out HN.out.box (by decide)
 rw [Hv] at Hw gml gfm wm gxm ⊢
 clear a0 a3 a4 d2 al dl HQ HN Hi HB Hs Hp Hv Hb Hr
 rw [Hy.out] at c2
 go_wp2
 go_ret
 exact ⟨zAb (zAd HY.out.2.symm),by rw [HY.out.1];exact Kd.out.e,Ke.out⟩
theorem NetW.farMsg {w:World} {base gx g i:Nat} {x:Scu.Net} {rv sv fv cv tv:Value} {cs:Array Value} (h:NetW w base gx x rv sv fv cv tv) (hB:Blk w g 137 cs) (Ha:fv.ownBlock≠some g) (hg:base<=g) (u:Value) :
 NetW (w.setCell ⟨g,i,none⟩ u) base gx x rv sv fv cv tv/\Fr base w (w.setCell ⟨g,i,none⟩ u):=by
 have hs:Same [87,49,42,92,66,9,3,4,44,32,33] 0 w (w.setCell ⟨g,i,none⟩ u):=Same.set_ hB (mE _) (by decide) i u
 obtain ⟨css,hf⟩:=h.fly
 exact ⟨⟨zAc h.box hs (by simp),zBs h.reps hs (by simp) (by simp),zBd h.slots hs (by simp) (by simp),⟨css,hf.len,hf.sz,zGh hf.row (p:=⟨g,i,none⟩) Ha u,fun j cs y a b=>(hf.each j cs y a b).same (Ts:=[9]) (by simp) (hs.mono (by simp) (mC _)),hf.max⟩,zCd h.cust hs (by simp),zBx h.told hs (by simp),h.lx⟩,
  (mG base w).setCell (p:=⟨g,i,none⟩) hg u,hs.mono (by simp) (mC _)⟩
theorem NetW.delFly {w:World} {base gx g c k:Nat} {x:Scu.Net} {rv sv cv tv:Value} {css:List (List Value)} (h:NetW w base gx x rv sv (.slice (some ⟨g,0,none⟩) x.flying.length c) cv tv) (hf:OwnR 137 8 80 MsgE w base (.slice (some ⟨g,0,none⟩) x.flying.length c) x.flying css) (hk:k < x.flying.length) {W:World} (hW:W=(w.setCells g (k*8) (css.drop (k+1)).flatten).setCells g ((x.flying.length - 1)*8) zeroM) :
 NetW (W.setCell ⟨gx,2,none⟩ (.slice (some ⟨g,0,none⟩) (x.flying.length - 1) c)) base gx { x with flying:=x.flying.eraseIdx k } rv sv (.slice (some ⟨g,0,none⟩) (x.flying.length - 1) c) cv tv/\Fr base w (W.setCell ⟨gx,2,none⟩ (.slice (some ⟨g,0,none⟩) (x.flying.length - 1) c)) /\
  Blk W gx 87 #[rv,sv,(.slice (some ⟨g,0,none⟩) x.flying.length c),cv,tv]/\(∀ q:Addr,q.block≠g->W.cell? q=w.cell? q)/\Below base w W/\Same [9] 0 w W:=by
 subst hW
 obtain ⟨hb,cur,hB⟩:=zAw hf.row
 obtain ⟨cur2,He⟩:=zPn (css.drop (k+1)).flatten (k*8) w cur hB
 have hs:Same [87,49,42,92,66,9,3,4,44,32,33] 0 w ((w.setCells g (k*8) (css.drop (k+1)).flatten).setCells g ((x.flying.length - 1)*8) zeroM) :=
  (Same.sets _ _ w cur hB (by decide)).trans (Same.sets zeroM _ _ cur2 He (by decide))
 have he:=hf.erase hk zeroM rfl (fun _ _ hx=>hx.same (Ts:=[9]) (by simp) (hs.mono (by simp) (mC _)))
 have Ha:=zAc h.box hs (by simp)
 have Hc:Same [49,42,137,92,66,9,3,4,44,32,33] 0 ((w.setCells g (k*8) (css.drop (k+1)).flatten).setCells g ((x.flying.length - 1)*8) zeroM) _:=Same.set_ Ha (mE _) (by decide) 2 (.slice (some ⟨g,0,none⟩) (x.flying.length - 1) c)
 have Hb:Same [49,42,92,66,9,3,4,44,32,33] 0 w _:=(hs.mono (by simp) (mC _)).trans (Hc.mono (by simp) (mC _))
 have Hd:Below base w ((w.setCells g (k*8) (css.drop (k+1)).flatten).setCells g ((x.flying.length - 1)*8) zeroM):=zAh hb _ _ _ _ (zAh hb _ _ _ _ (mG _ _))
 refine ⟨⟨Ha.set_ 2 _,zBs h.reps Hb (by simp) (by simp),zBd h.slots Hb (by simp) (by simp),zEg ⟨_,he⟩ Hc (by simp) (by simp),zCd h.cust Hb (by simp),zBx h.told Hb (by simp),h.lx⟩,⟨Hd.setCell (p:=⟨gx,2,none⟩) h.lx _,Hb.mono (by simp) (mC _)⟩,Ha,fun q hq=>?_,Hd,hs.mono (by simp) (mC _)⟩
 rw [zFn hq,zFn hq]
theorem zWs (a:Scu.Act) (w:World) (base gx:Nat) (x:Scu.Net) (rv sv fv cv tv:Value) (hN:NetW w base gx x rv sv fv cv tv) (hb:base<=w.heap.size) (h3:x.replicas.length=3) (Hx:x.slots.length=3) (Vg:x.flying.length<=80) (k:Nat) (Hs:a.k=k) (hk:k < x.flying.length) (Hy:a.kind=8) (Kp:x.flying.length < 80) (y:Scu.Net) (f:Int) (hy:y = { x with flying:=x.flying ++ [x.flying[k]] }/\f=0):Calls Tryd.prog 46 #[.pointer (some ⟨gx,0,none⟩),.agg #[.int .i64 a.kind,.int .i64 a.c,.int .i64 a.r,.int .i64 a.k,.int .i64 a.n,.int .i64 a.op.kind,.int .i64 a.op.at_,.int .i64 a.op.snap,.string a.op.data]] w fun e w'=>e=.returned (.int .i64 f)/\NetE w' base gx y/\Fr base w w':=by
 have Kq:(a.kind == 8)=true:=by rw [beq_iff_eq];exact Hy
 have Kr:((x.flying.length:Int) == 80)=false:=by rw [beq_eq_false_iff_ne];omega
 clear Hy
 have Ks:decide (a.k < 0)=false:=by rw [decide_eq_false_iff_not];omega
 have Kt:decide ((x.flying.length:Int)<=a.k)=false:=by rw [decide_eq_false_iff_not];omega
 rw [Hs] at Ks Kt
 have Ku:=mA Hs
 clear Hs
 obtain ⟨B0,e0,B1,e1,B2,e2,B3,e3,B4,e4,rfl,rfl,rfl,rfl,rfl⟩:=hN.forms
 have Hn:=zAa w (.cells (aN a) 40)
 have HN:=mA (hN.below Hn)
 have HB:=mA (Blk.new w 40 (aN a))
 have Ho:=mA (Fr.of Hn hb)
 have Hz:=mA Hn
 have H3:=mA h3
 have Vh:=mA Hx
 have HY:=mA hy
 clear hN h3 Hx Hn hy
 go_enter Tryd.func46,Tryd.ntmps46
 go_upto_region 1 with fail
 obtain ⟨Wd,Ka⟩:=mJ (w.alloc (.cells (aN a) 40))
 rw [<- Ka] at HN HB Ho Hz ⊢
 clear Ka
 have Ht:=HB.out
 obtain ⟨a0,-,-,a3,a4⟩:=cz5 Ht
 obtain ⟨-,-,d2⟩:=cz3 HN.out.box
 have al:=Ht.lt
 have dl:=HN.out.box.lt
 clear Ht
 rw [Ku.out] at a3
 obtain ⟨gf,cf,lu,ef,Vi,Hd,Hp,He,-,curf,Kb⟩:=HN.out.flyAt hk
 obtain ⟨rfl,rfl⟩:B2=some ⟨gf,0,none⟩/\e2=cf:=by cases ef;exact ⟨rfl,rfl⟩
 obtain ⟨Al,nl,cl,rfl⟩:=Hp.form
 obtain ⟨m,hm⟩:=mK (x.flying[k])
 rw [hm] at Hp He
 have t0:Wd.cell? ⟨gf,k*8,none⟩=some (.int .i64 m.kind):=He 0 _ rfl
 have t1:Wd.cell? ⟨gf,k*8+1,none⟩=some (.int .i64 m.from_):=He 1 _ rfl
 have t2:Wd.cell? ⟨gf,k*8+2,none⟩=some (.int .i64 m.tq):=He 2 _ rfl
 have t3:Wd.cell? ⟨gf,k*8+3,none⟩=some (.int .i64 m.view):=He 3 _ rfl
 have t4:Wd.cell? ⟨gf,k*8+4,none⟩=some (.int .i64 m.normal):=He 4 _ rfl
 have t5:Wd.cell? ⟨gf,k*8+5,none⟩=some (.int .i64 m.commit):=He 5 _ rfl
 have t6:Wd.cell? ⟨gf,k*8+6,none⟩=some (.int .i64 m.n):=He 6 _ rfl
 have t7:Wd.cell? ⟨gf,k*8+7,none⟩=some (.slice Al nl cl):=He 7 _ rfl
 have Vj:(k:Int) < (x.flying.length:Int):=by omega
 have Kc:=mA Hp
 have HM:=mA hm
 clear ef He Hp hm
 go_wp2_with fail
 go_quiet (fail)
 go_wp2_with fail
 obtain ⟨S,Hh⟩:∃ S:World->Prop,S=fun w'=>Below Wd.heap.size Wd w':=⟨_,rfl⟩
 have Hi:S ((Wd.drewN nq).drew):=by rw [Hh];exact (below_drewN (mG _ _) nq).drew
 refine wp_region_held (S:=S) (by kernel_rfl) ?_
 change wpAnyH _ _ _ _ _ _ _ _ ((Wd.drewN nq).drew)
 have Kv:=fun (wv:World) (Hb:Below Wd.heap.size Wd wv)=>mB (cW Hb dl d2) (mB (cW Hb al a3) (mB (cW Hb Hd t0) (mB (cW Hb Hd t1) (mB (cW Hb Hd t2) (mB (cW Hb Hd t3) (mB (cW Hb Hd t4) (mB (cW Hb Hd t5) (mB (cW Hb Hd t6) (cW Hb Hd t7)))))))))
 refine tkHs [0,1,2,3,4,5,6,7] (by kernel_rfl) (fun _ _ _ _ _ h=>h) Hi ?_
 iterate 8
  refine tkc (v:=?_) rfl (Or.inl ⟨by rfl,?_⟩) ?_
  rotate_left
  ·(intro wv Hb;rw [Hh] at Hb;obtain ⟨q0,q1,s0,s1,s2,s3,s4,s5,s6,s7⟩:=Kv wv Hb;go_simp;(try with_reducible rfl))
  (try simp only [Act.put,zp1,zp2,zp3])
 refine tkz ?_
 refine alH 8 (by kernel_rfl) (wpOp_step (o:=_) rfl fun KA Kd=>?_)
 go_simp
 have Hi:S (((Wd.drewN nq).drew).alloc (.cells #[.int .i64 0,.int .i64 0,.int .i64 0,.int .i64 0,.int .i64 0,.int .i64 0,.int .i64 0,.slice none 0 0] 137)):=by rw [Hh];exact ((below_drewN (mG _ _) nq).drew).alloc (mC _) _
 refine Kd _ _ ⟨Hi,?_⟩
 (try simp only [Act.put,zp1,zp2,zp3])
 refine alH 9 (by kernel_rfl) (wpOp_step (o:=_) rfl fun KB Ke=>?_)
 rw [if_pos (by rfl)]
 refine wp_store_mid 137 (.tmp 5) (.tmp 30) rfl Wd.heap.size 0 (mN m Al nl cl) rfl rfl (zAs (Blk.new' (w:=(Wd.drewN nq).drew) (g:=Wd.heap.size) (t:=137) (cs:=#[.int .i64 0,.int .i64 0,.int .i64 0,.int .i64 0,.int .i64 0,.int .i64 0,.int .i64 0,.slice none 0 0]) rfl)) (by kernel_rfl) (all_oneCell_toArray zEy) ?_
 have HQ:=mA (zDs Kc.out ((below_drewN (mG _ _) nq).drew.alloc (mC _) _) (Blk.new' (w:=(Wd.drewN nq).drew) (g:=Wd.heap.size) (t:=137) (cs:=#[.int .i64 0,.int .i64 0,.int .i64 0,.int .i64 0,.int .i64 0,.int .i64 0,.int .i64 0,.slice none 0 0]) rfl) (mC _))
 obtain ⟨W2,Hj⟩:=mJ ((((Wd.drewN nq).drew).alloc (.cells #[.int .i64 0,.int .i64 0,.int .i64 0,.int .i64 0,.int .i64 0,.int .i64 0,.int .i64 0,.slice none 0 0] 137)).setCells Wd.heap.size 0 [.int .i64 m.kind,.int .i64 m.from_,.int .i64 m.tq,.int .i64 m.view,.int .i64 m.normal,.int .i64 m.commit,.int .i64 m.n,.slice Al nl cl])
 have Hu:S W2:=by rw [Hh,Hj];rw [Hh] at Hi;exact zAh (mC _) _ 0 _ _ Hi
 rw [<- Hj] at HQ
 refine Ke _ _ ⟨by rw [Hj] at Hu;exact Hu,wpAnyH_done (by kernel_rfl) ?_ _⟩
 (try simp only [Act.put,zp1,zp2,zp3])
 change Exit.then _ _ _ _ ((((Wd.drewN nq).drew).alloc (.cells #[.int .i64 0,.int .i64 0,.int .i64 0,.int .i64 0,.int .i64 0,.int .i64 0,.int .i64 0,.slice none 0 0] 137)).setCells Wd.heap.size 0 [.int .i64 m.kind,.int .i64 m.from_,.int .i64 m.tq,.int .i64 m.view,.int .i64 m.normal,.int .i64 m.commit,.int .i64 m.n,.slice Al nl cl])
 rw [<- Hj]
 clear Hj Hu Hi Hh Kd Ke t0 t1 t2 t3 t4 t5 t6 t7
 obtain ⟨gm,Kf⟩:=mK (Wd.heap.size)
 have Kw:=mA (HN.out.below HQ.out.1)
 have Kg:=mA (Ho.out.trans (Fr.of HQ.out.1 (mD hb Ho.out.size)))
 have Hq:=mA HQ.out.2.1
 have Hv:=mA HQ.out.2.2
 have Vk:=mA HQ.out.1
 have b0:=cW HQ.out.1 al a0
 have b3:=cW HQ.out.1 al a3
 have b4:=cW HQ.out.1 al a4
 have c2:=cW HQ.out.1 dl d2
 have bl:w.heap.size < W2.heap.size:=mF al HQ.out.1.size
 have cl2:gx < W2.heap.size:=mF dl HQ.out.1.size
 have gml:Wd.heap.size < W2.heap.size:=Hq.out.lt
 have gfm:gf < Wd.heap.size:=Hd
 have wm:w.heap.size < Wd.heap.size:=al
 have gxm:gx < Wd.heap.size:=dl
 have Kx:w.heap.size≠gf:=zAo HB.out Kb (by decide)
 have Ky:w.heap.size≠gx:=zAo HB.out HN.out.box (by decide)
 rw [Kf] at Hq gml gfm wm gxm ⊢
 clear a0 a3 a4 d2 al dl HQ HN Ho HB Kc Hz Kf Hd Kb
 obtain ⟨-,-,-,-,-,-,-,m7⟩:=cz8 Hq.out
 go_wp2_with fail
 refine (zAl _ m.log _ 0 Hv.out).mono ?_;rintro e w3 ⟨⟨u,rfl,hu⟩,h3⟩
 obtain ⟨Au,cu,rfl,_,_,_,_⟩:=zAg hu
 have Hc:=Hq.out.same h3
 obtain ⟨-,-,-,-,-,-,-,z7⟩:=cz8 Hc
 have zz:=Hc.frozen
 have zl:=Hc.lt
 have Hk:=zCv hu Hv.out.len Hv.out.each
 have Kz:=mA (Kw.out.below h3)
 have Kh:=mA (Kg.out.trans (Fr.of h3 (mD hb Kg.out.size)))
 have Ki:=mA Hc
 have Va:=mA Hk
 have Vb:=Kh.out.size
 clear hu h3 Hc Hk m7
 go_upto_region 8 with fail
 obtain ⟨W4,Hr⟩:=mJ (w3.setCell ⟨gm,7,none⟩ (.slice Au m.log.length cu))
 have Ha:=Kz.out.farMsg (i:=7) Ki.out (by show some gf≠some gm;intro e;cases e;omega) (by omega) (.slice Au m.log.length cu)
 have Hw:Blk W4 gm 137 (mN m Au m.log.length cu):=by rw [Hr];exact Ki.out.set_ 7 _
 have Kj:IsStrs W4 0 (.slice Au m.log.length cu) m.log:=by rw [Hr];exact Va.out.same (Ts:=[9]) (by simp) (Ha.2.2.mono (by simp) (mC _))
 rw [<- Hr] at Ha ⊢
 have Vc:=mA Ha.1
 have Kk:=mA (Kh.out.trans Ha.2)
 have Vd:=mA Kj
 obtain ⟨q0,q1,q2,q3,q4,q5,q6,q7⟩:=cz8 Hw
 obtain ⟨-,-,d2⟩:=cz3 Ha.1.box
 have dz:=Ha.1.box.frozen
 have dl:=Ha.1.box.lt
 have ql:=Hw.lt
 obtain ⟨fss,Kl⟩:=Ha.1.fly
 have Km:=mA Kl
 have Hf:base<=W4.heap.size:=mD hb Kk.out.size
 have Ve:=mA (show base<=((W4.alloc (.cells (mN m Au m.log.length cu) 137)).drew).heap.size from mD Hf ((zAa W4 _).drew).size)
 have Hg:=mA (show x.flying.length+1<=maxLen/\(x.flying.length+1)*80<=140737488355328/\(x.flying.length+1)*80<=R47 from ⟨by unfold maxLen;omega,by omega,by unfold R47;omega⟩)
 clear Ha Hw Kj Hr Kl z7 zz zl b0 b3 b4 c2
 go_wp2_with fail
 go_region_law (first
  | (refine zDv _ rfl (.tmp 48) (.tmp 50) 27 rfl zLu base (.slice (some ⟨gf,0,none⟩) x.flying.length e2) x.flying.length fss.flatten rfl ?_ (.slice (some ⟨W4.heap.size,0,none⟩) 1 1) 1 (msgV m (.slice Au m.log.length cu)) rfl ⟨rfl,.inr ⟨_,_,rfl,?_⟩⟩ ?_ ?_ ?_ ?_ ?_
     ·exact (zAk Km.out.row (zAa W4 _).drew)
     ·exact zTe
     ·exact zEy
     ·exact Hg.out.1
     ·exact Hg.out.2.1
     ·exact Ve.out
     intro v4 x4 h4 Kn Vf
     have Hl:=zHz Vc.out Km.out Vd.out Hf Hg.out.2.2 rfl h4 Kn
     have g2:=Hl.2.1
     have gz:=Hl.2.2.1
     have gl:=Hl.2.2.2
     obtain ⟨A9,c9,rfl,_,_,_,_⟩:=zAg h4
     have Ko:=mA Hl.1
     clear Hl h4 Kn Vf))
 all_goals
  have Hm:=mA (mB Ko.out.1.e (Kk.out.trans Ko.out.2))
  clear g2 gz gl d2 dz dl ql q0 q1 q2 q3 q4 q5 q6 q7
  go_wp2
  go_ret
  exact ⟨zAb (zAd HY.out.2.symm),by rw [HY.out.1,HM.out];exact Hm.out.1,Hm.out.2⟩
theorem zWt (a:Scu.Act) (w:World) (base gx:Nat) (x:Scu.Net) (rv sv fv cv tv:Value) (hN:NetW w base gx x rv sv fv cv tv) (hb:base<=w.heap.size) (h3:x.replicas.length=3) (Hv:x.slots.length=3) (Ko:x.flying.length<=80) (k:Nat) (Hl:a.k=k) (hk:k < x.flying.length) (Hm:a.kind=10) (hn:a.n < 0\/4000 < a.n) (y:Scu.Net) (f:Int) (hy:y=x/\f=2):Calls Tryd.prog 46 #[.pointer (some ⟨gx,0,none⟩),.agg #[.int .i64 a.kind,.int .i64 a.c,.int .i64 a.r,.int .i64 a.k,.int .i64 a.n,.int .i64 a.op.kind,.int .i64 a.op.at_,.int .i64 a.op.snap,.string a.op.data]] w fun e w'=>e=.returned (.int .i64 f)/\NetE w' base gx y/\Fr base w w':=by
 have Kf:(a.kind == 8)=false:=by rw [beq_eq_false_iff_ne];omega
 have Ke:(a.kind == 10)=true:=by rw [beq_iff_eq];exact Hm
 clear Hm
 by_cases hn0:a.n < 0
 ·have Hw:decide (a.n < 0)=true:=by simpa using hn0
  clear hn hn0
  have Hx:decide (a.k < 0)=false:=by rw [decide_eq_false_iff_not];omega
  have Hy:decide ((x.flying.length:Int)<=a.k)=false:=by rw [decide_eq_false_iff_not];omega
  rw [Hl] at Hx Hy
  have Hz:=mA Hl
  clear Hl
  obtain ⟨B0,e0,B1,e1,B2,e2,B3,e3,B4,e4,rfl,rfl,rfl,rfl,rfl⟩:=hN.forms
  have Hg:=zAa w (.cells (aN a) 40)
  have HN:=mA (hN.below Hg)
  have HB:=mA (Blk.new w 40 (aN a))
  have Hh:=mA (Fr.of Hg hb)
  have Hn:=mA Hg
  have H3:=mA h3
  have Kg:=mA Hv
  have HY:=mA hy
  clear hN h3 Hv Hg hy
  go_enter Tryd.func46,Tryd.ntmps46
  go_upto_region 1 with fail
  obtain ⟨Wd,Ho⟩:=mJ (w.alloc (.cells (aN a) 40))
  rw [<- Ho] at HN HB Hh Hn ⊢
  clear Ho
  have Hj:=HB.out
  obtain ⟨a0,-,-,a3,a4⟩:=cz5 Hj
  obtain ⟨-,-,d2⟩:=cz3 HN.out.box
  have al:=Hj.lt
  have dl:=HN.out.box.lt
  clear Hj
  rw [Hz.out] at a3
  obtain ⟨gf,cf,lu,ef,Kh,Hb,Hi,Hc,-,curf,Hp⟩:=HN.out.flyAt hk
  obtain ⟨rfl,rfl⟩:B2=some ⟨gf,0,none⟩/\e2=cf:=by cases ef;exact ⟨rfl,rfl⟩
  obtain ⟨Al,nl,cl,rfl⟩:=Hi.form
  obtain ⟨m,hm⟩:=mK (x.flying[k])
  rw [hm] at Hi Hc
  have t0:Wd.cell? ⟨gf,k*8,none⟩=some (.int .i64 m.kind):=Hc 0 _ rfl
  have t1:Wd.cell? ⟨gf,k*8+1,none⟩=some (.int .i64 m.from_):=Hc 1 _ rfl
  have t2:Wd.cell? ⟨gf,k*8+2,none⟩=some (.int .i64 m.tq):=Hc 2 _ rfl
  have t3:Wd.cell? ⟨gf,k*8+3,none⟩=some (.int .i64 m.view):=Hc 3 _ rfl
  have t4:Wd.cell? ⟨gf,k*8+4,none⟩=some (.int .i64 m.normal):=Hc 4 _ rfl
  have t5:Wd.cell? ⟨gf,k*8+5,none⟩=some (.int .i64 m.commit):=Hc 5 _ rfl
  have t6:Wd.cell? ⟨gf,k*8+6,none⟩=some (.int .i64 m.n):=Hc 6 _ rfl
  have t7:Wd.cell? ⟨gf,k*8+7,none⟩=some (.slice Al nl cl):=Hc 7 _ rfl
  have Ki:(k:Int) < (x.flying.length:Int):=by omega
  have Hq:=mA Hi
  have HM:=mA hm
  clear ef Hc Hi hm
  go_wp2_with fail
  go_quiet (fail)
  go_wp2_with fail
  obtain ⟨S,Hd⟩:∃ S:World->Prop,S=fun w'=>Below Wd.heap.size Wd w':=⟨_,rfl⟩
  have He:S ((Wd.drewN nq).drew):=by rw [Hd];exact (below_drewN (mG _ _) nq).drew
  refine wp_region_held (S:=S) (by kernel_rfl) ?_
  change wpAnyH _ _ _ _ _ _ _ _ ((Wd.drewN nq).drew)
  have Kj:=fun (wv:World) (Ha:Below Wd.heap.size Wd wv)=>mB (cW Ha dl d2) (mB (cW Ha al a3) (mB (cW Ha Hb t0) (mB (cW Ha Hb t1) (mB (cW Ha Hb t2) (mB (cW Ha Hb t3) (mB (cW Ha Hb t4) (mB (cW Ha Hb t5) (mB (cW Ha Hb t6) (cW Ha Hb t7)))))))))
  refine tkHs [0,1,2,3,4,5,6,7] (by kernel_rfl) (fun _ _ _ _ _ h=>h) He ?_
  iterate 8
   refine tkc (v:=?_) rfl (Or.inl ⟨by rfl,?_⟩) ?_
   rotate_left
   ·(intro wv Ha;rw [Hd] at Ha;obtain ⟨q0,q1,s0,s1,s2,s3,s4,s5,s6,s7⟩:=Kj wv Ha;go_simp;(try with_reducible rfl))
   (try simp only [Act.put,zp1,zp2,zp3])
  refine tkz ?_
  refine alH 8 (by kernel_rfl) (wpOp_step (o:=_) rfl fun KA Hr=>?_)
  go_simp
  have He:S (((Wd.drewN nq).drew).alloc (.cells #[.int .i64 0,.int .i64 0,.int .i64 0,.int .i64 0,.int .i64 0,.int .i64 0,.int .i64 0,.slice none 0 0] 137)):=by rw [Hd];exact ((below_drewN (mG _ _) nq).drew).alloc (mC _) _
  refine Hr _ _ ⟨He,?_⟩
  (try simp only [Act.put,zp1,zp2,zp3])
  refine alH 9 (by kernel_rfl) (wpOp_step (o:=_) rfl fun KB Hs=>?_)
  rw [if_pos (by rfl)]
  refine wp_store_mid 137 (.tmp 5) (.tmp 30) rfl Wd.heap.size 0 (mN m Al nl cl) rfl rfl (zAs (Blk.new' (w:=(Wd.drewN nq).drew) (g:=Wd.heap.size) (t:=137) (cs:=#[.int .i64 0,.int .i64 0,.int .i64 0,.int .i64 0,.int .i64 0,.int .i64 0,.int .i64 0,.slice none 0 0]) rfl)) (by kernel_rfl) (all_oneCell_toArray zEy) ?_
  have HQ:=mA (zDs Hq.out ((below_drewN (mG _ _) nq).drew.alloc (mC _) _) (Blk.new' (w:=(Wd.drewN nq).drew) (g:=Wd.heap.size) (t:=137) (cs:=#[.int .i64 0,.int .i64 0,.int .i64 0,.int .i64 0,.int .i64 0,.int .i64 0,.int .i64 0,.slice none 0 0]) rfl) (mC _))
  obtain ⟨W2,Hf⟩:=mJ ((((Wd.drewN nq).drew).alloc (.cells #[.int .i64 0,.int .i64 0,.int .i64 0,.int .i64 0,.int .i64 0,.int .i64 0,.int .i64 0,.slice none 0 0] 137)).setCells Wd.heap.size 0 [.int .i64 m.kind,.int .i64 m.from_,.int .i64 m.tq,.int .i64 m.view,.int .i64 m.normal,.int .i64 m.commit,.int .i64 m.n,.slice Al nl cl])
  have Hk:S W2:=by rw [Hd,Hf];rw [Hd] at He;exact zAh (mC _) _ 0 _ _ He
  rw [<- Hf] at HQ
  refine Hs _ _ ⟨by rw [Hf] at Hk;exact Hk,wpAnyH_done (by kernel_rfl) ?_ _⟩
  (try simp only [Act.put,zp1,zp2,zp3])
  change Exit.then _ _ _ _ ((((Wd.drewN nq).drew).alloc (.cells #[.int .i64 0,.int .i64 0,.int .i64 0,.int .i64 0,.int .i64 0,.int .i64 0,.int .i64 0,.slice none 0 0] 137)).setCells Wd.heap.size 0 [.int .i64 m.kind,.int .i64 m.from_,.int .i64 m.tq,.int .i64 m.view,.int .i64 m.normal,.int .i64 m.commit,.int .i64 m.n,.slice Al nl cl])
  rw [<- Hf]
  clear Hf Hk He Hd Hr Hs t0 t1 t2 t3 t4 t5 t6 t7
  obtain ⟨gm,Ht⟩:=mK (Wd.heap.size)
  have Ka:=mA (HN.out.below HQ.out.1)
  have Kb:=mA (Hh.out.trans (Fr.of HQ.out.1 (mD hb Hh.out.size)))
  have Hu:=mA HQ.out.2.1
  have Kk:=mA HQ.out.2.2
  have Kl:=mA HQ.out.1
  have b0:=cW HQ.out.1 al a0
  have b3:=cW HQ.out.1 al a3
  have b4:=cW HQ.out.1 al a4
  have c2:=cW HQ.out.1 dl d2
  have bl:w.heap.size < W2.heap.size:=mF al HQ.out.1.size
  have cl2:gx < W2.heap.size:=mF dl HQ.out.1.size
  have gml:Wd.heap.size < W2.heap.size:=Hu.out.lt
  have gfm:gf < Wd.heap.size:=Hb
  have wm:w.heap.size < Wd.heap.size:=al
  have gxm:gx < Wd.heap.size:=dl
  have Kc:w.heap.size≠gf:=zAo HB.out Hp (by decide)
  have Kd:w.heap.size≠gx:=zAo HB.out HN.out.box (by decide)
  rw [Ht] at Hu gml gfm wm gxm ⊢
  clear a0 a3 a4 d2 al dl HQ HN Hh HB Hq Hn Ht Hb Hp
  go_wp2
  go_ret
  exact ⟨zAb (zAd HY.out.2.symm),by rw [HY.out.1];exact Ka.out.e,Kb.out⟩
 have Hw:decide (a.n < 0)=false:=by simpa using hn0
 have Km:decide (4000 < a.n)=true:=by rw [decide_eq_true_eq];omega
 clear hn hn0
 have Hx:decide (a.k < 0)=false:=by rw [decide_eq_false_iff_not];omega
 have Hy:decide ((x.flying.length:Int)<=a.k)=false:=by rw [decide_eq_false_iff_not];omega
 rw [Hl] at Hx Hy
 have Hz:=mA Hl
 clear Hl
 obtain ⟨B0,e0,B1,e1,B2,e2,B3,e3,B4,e4,rfl,rfl,rfl,rfl,rfl⟩:=hN.forms
 have Hg:=zAa w (.cells (aN a) 40)
 have HN:=mA (hN.below Hg)
 have HB:=mA (Blk.new w 40 (aN a))
 have Hh:=mA (Fr.of Hg hb)
 have Hn:=mA Hg
 have H3:=mA h3
 have Kg:=mA Hv
 have HY:=mA hy
 clear hN h3 Hv Hg hy
 go_enter Tryd.func46,Tryd.ntmps46
 go_upto_region 1 with fail
 obtain ⟨Wd,Ho⟩:=mJ (w.alloc (.cells (aN a) 40))
 rw [<- Ho] at HN HB Hh Hn ⊢
 clear Ho
 have Hj:=HB.out
 obtain ⟨a0,-,-,a3,a4⟩:=cz5 Hj
 obtain ⟨-,-,d2⟩:=cz3 HN.out.box
 have al:=Hj.lt
 have dl:=HN.out.box.lt
 clear Hj
 rw [Hz.out] at a3
 obtain ⟨gf,cf,lu,ef,Kh,Hb,Hi,Hc,-,curf,Hp⟩:=HN.out.flyAt hk
 obtain ⟨rfl,rfl⟩:B2=some ⟨gf,0,none⟩/\e2=cf:=by cases ef;exact ⟨rfl,rfl⟩
 obtain ⟨Al,nl,cl,rfl⟩:=Hi.form
 obtain ⟨m,hm⟩:=mK (x.flying[k])
 rw [hm] at Hi Hc
 have t0:Wd.cell? ⟨gf,k*8,none⟩=some (.int .i64 m.kind):=Hc 0 _ rfl
 have t1:Wd.cell? ⟨gf,k*8+1,none⟩=some (.int .i64 m.from_):=Hc 1 _ rfl
 have t2:Wd.cell? ⟨gf,k*8+2,none⟩=some (.int .i64 m.tq):=Hc 2 _ rfl
 have t3:Wd.cell? ⟨gf,k*8+3,none⟩=some (.int .i64 m.view):=Hc 3 _ rfl
 have t4:Wd.cell? ⟨gf,k*8+4,none⟩=some (.int .i64 m.normal):=Hc 4 _ rfl
 have t5:Wd.cell? ⟨gf,k*8+5,none⟩=some (.int .i64 m.commit):=Hc 5 _ rfl
 have t6:Wd.cell? ⟨gf,k*8+6,none⟩=some (.int .i64 m.n):=Hc 6 _ rfl
 have t7:Wd.cell? ⟨gf,k*8+7,none⟩=some (.slice Al nl cl):=Hc 7 _ rfl
 have Ki:(k:Int) < (x.flying.length:Int):=by omega
 have Hq:=mA Hi
 have HM:=mA hm
 clear ef Hc Hi hm
 go_wp2_with fail
 go_quiet (fail)
 go_wp2_with fail
 obtain ⟨S,Hd⟩:∃ S:World->Prop,S=fun w'=>Below Wd.heap.size Wd w':=⟨_,rfl⟩
 have He:S ((Wd.drewN nq).drew):=by rw [Hd];exact (below_drewN (mG _ _) nq).drew
 refine wp_region_held (S:=S) (by kernel_rfl) ?_
 change wpAnyH _ _ _ _ _ _ _ _ ((Wd.drewN nq).drew)
 have Kn:=fun (wv:World) (Ha:Below Wd.heap.size Wd wv)=>mB (cW Ha dl d2) (mB (cW Ha al a3) (mB (cW Ha Hb t0) (mB (cW Ha Hb t1) (mB (cW Ha Hb t2) (mB (cW Ha Hb t3) (mB (cW Ha Hb t4) (mB (cW Ha Hb t5) (mB (cW Ha Hb t6) (cW Ha Hb t7)))))))))
 refine tkHs [0,1,2,3,4,5,6,7] (by kernel_rfl) (fun _ _ _ _ _ h=>h) He ?_
 iterate 8
  refine tkc (v:=?_) rfl (Or.inl ⟨by rfl,?_⟩) ?_
  rotate_left
  ·(intro wv Ha;rw [Hd] at Ha;obtain ⟨q0,q1,s0,s1,s2,s3,s4,s5,s6,s7⟩:=Kn wv Ha;go_simp;(try with_reducible rfl))
  (try simp only [Act.put,zp1,zp2,zp3])
 refine tkz ?_
 refine alH 8 (by kernel_rfl) (wpOp_step (o:=_) rfl fun KA Hr=>?_)
 go_simp
 have He:S (((Wd.drewN nq).drew).alloc (.cells #[.int .i64 0,.int .i64 0,.int .i64 0,.int .i64 0,.int .i64 0,.int .i64 0,.int .i64 0,.slice none 0 0] 137)):=by rw [Hd];exact ((below_drewN (mG _ _) nq).drew).alloc (mC _) _
 refine Hr _ _ ⟨He,?_⟩
 (try simp only [Act.put,zp1,zp2,zp3])
 refine alH 9 (by kernel_rfl) (wpOp_step (o:=_) rfl fun KB Hs=>?_)
 rw [if_pos (by rfl)]
 refine wp_store_mid 137 (.tmp 5) (.tmp 30) rfl Wd.heap.size 0 (mN m Al nl cl) rfl rfl (zAs (Blk.new' (w:=(Wd.drewN nq).drew) (g:=Wd.heap.size) (t:=137) (cs:=#[.int .i64 0,.int .i64 0,.int .i64 0,.int .i64 0,.int .i64 0,.int .i64 0,.int .i64 0,.slice none 0 0]) rfl)) (by kernel_rfl) (all_oneCell_toArray zEy) ?_
 have HQ:=mA (zDs Hq.out ((below_drewN (mG _ _) nq).drew.alloc (mC _) _) (Blk.new' (w:=(Wd.drewN nq).drew) (g:=Wd.heap.size) (t:=137) (cs:=#[.int .i64 0,.int .i64 0,.int .i64 0,.int .i64 0,.int .i64 0,.int .i64 0,.int .i64 0,.slice none 0 0]) rfl) (mC _))
 obtain ⟨W2,Hf⟩:=mJ ((((Wd.drewN nq).drew).alloc (.cells #[.int .i64 0,.int .i64 0,.int .i64 0,.int .i64 0,.int .i64 0,.int .i64 0,.int .i64 0,.slice none 0 0] 137)).setCells Wd.heap.size 0 [.int .i64 m.kind,.int .i64 m.from_,.int .i64 m.tq,.int .i64 m.view,.int .i64 m.normal,.int .i64 m.commit,.int .i64 m.n,.slice Al nl cl])
 have Hk:S W2:=by rw [Hd,Hf];rw [Hd] at He;exact zAh (mC _) _ 0 _ _ He
 rw [<- Hf] at HQ
 refine Hs _ _ ⟨by rw [Hf] at Hk;exact Hk,wpAnyH_done (by kernel_rfl) ?_ _⟩
 (try simp only [Act.put,zp1,zp2,zp3])
 change Exit.then _ _ _ _ ((((Wd.drewN nq).drew).alloc (.cells #[.int .i64 0,.int .i64 0,.int .i64 0,.int .i64 0,.int .i64 0,.int .i64 0,.int .i64 0,.slice none 0 0] 137)).setCells Wd.heap.size 0 [.int .i64 m.kind,.int .i64 m.from_,.int .i64 m.tq,.int .i64 m.view,.int .i64 m.normal,.int .i64 m.commit,.int .i64 m.n,.slice Al nl cl])
 rw [<- Hf]
 clear Hf Hk He Hd Hr Hs t0 t1 t2 t3 t4 t5 t6 t7
 obtain ⟨gm,Ht⟩:=mK (Wd.heap.size)
 have Ka:=mA (HN.out.below HQ.out.1)
 have Kb:=mA (Hh.out.trans (Fr.of HQ.out.1 (mD hb Hh.out.size)))
 have Hu:=mA HQ.out.2.1
 have Kk:=mA HQ.out.2.2
 have Kl:=mA HQ.out.1
 have b0:=cW HQ.out.1 al a0
 have b3:=cW HQ.out.1 al a3
 have b4:=cW HQ.out.1 al a4
 have c2:=cW HQ.out.1 dl d2
 have bl:w.heap.size < W2.heap.size:=mF al HQ.out.1.size
 have cl2:gx < W2.heap.size:=mF dl HQ.out.1.size
 have gml:Wd.heap.size < W2.heap.size:=Hu.out.lt
 have gfm:gf < Wd.heap.size:=Hb
 have wm:w.heap.size < Wd.heap.size:=al
 have gxm:gx < Wd.heap.size:=dl
 have Kc:w.heap.size≠gf:=zAo HB.out Hp (by decide)
 have Kd:w.heap.size≠gx:=zAo HB.out HN.out.box (by decide)
 rw [Ht] at Hu gml gfm wm gxm ⊢
 clear a0 a3 a4 d2 al dl HQ HN Hh HB Hq Hn Ht Hb Hp
 go_wp2
 go_ret
 exact ⟨zAb (zAd HY.out.2.symm),by rw [HY.out.1];exact Ka.out.e,Kb.out⟩
end Go.Proofs.YtnpphdaakookcaaDoor
