/- Part 33: words and walks under the laws of the whole. -/
import Derived.Test.YtnpphdaakookcaaDoorQ29
set_option linter.unusedVariables false
set_option linter.unusedSimpArgs false
set_option maxHeartbeats 4000000
set_option maxRecDepth 100000
namespace Go.Proofs.YtnpphdaakookcaaDoor
open Go.RowKit
theorem yAa (a:Scu.Act) (w:World) (base gx:Nat) (x:Scu.Net) (rv sv fv cv tv:Value) (hN:NetW w base gx x rv sv fv cv tv) (hb:base<=w.heap.size) (h3:x.replicas.length=3) (He:x.slots.length=3) (Hi:x.flying.length<=80) (hr:a.r < 0\/3<=a.r) (y:Scu.Net) (f:Int) (hy:y=x/\f=6):Calls Tryd.prog 45 #[.pointer (some ⟨gx,0,none⟩),.agg #[.int .i64 a.kind,.int .i64 a.c,.int .i64 a.r,.int .i64 a.k,.int .i64 a.n,.int .i64 a.op.kind,.int .i64 a.op.at_,.int .i64 a.op.snap,.string a.op.data]] w fun e w'=>e=.returned (.int .i64 f)/\NetE w' base gx y/\Fr base w w':=by
 by_cases h0:a.r < 0
 ·have Hg:decide (a.r < 0)=true:=by simpa using h0
  have Ha:=zAa w (.cells (aN a) 40)
  have HN:=mA (hN.below Ha)
  have HB:=mA (Blk.new w 40 (aN a))
  have Hc:=mA (Fr.of Ha hb)
  have Hf:=mA Ha
  have H3:=mA h3
  have Hh:=mA He
  have HY:=mA hy
  clear hN h3 He Ha hy
  go_enter Tryd.func45,Tryd.ntmps45
  go_upto_region 1 with fail
  obtain ⟨Wd,Hd⟩:=mJ (w.alloc (.cells (aN a) 40))
  rw [<- Hd] at HN HB Hc Hf ⊢
  clear Hd
  have Hb:=HB.out
  obtain ⟨a0,-,a2⟩:=cz3 Hb
  have al:=Hb.lt
  clear Hb
  go_wp2
  go_ret
  exact ⟨zAb (zAd HY.out.2.symm),by rw [HY.out.1];exact HN.out.e,Hc.out⟩
 have Hg:decide (a.r < 0)=false:=by simpa using h0
 have Hj:decide (3<=a.r)=true:=by rw [decide_eq_true_eq];omega
 clear h0 hr
 have Ha:=zAa w (.cells (aN a) 40)
 have HN:=mA (hN.below Ha)
 have HB:=mA (Blk.new w 40 (aN a))
 have Hc:=mA (Fr.of Ha hb)
 have Hf:=mA Ha
 have H3:=mA h3
 have Hh:=mA He
 have HY:=mA hy
 clear hN h3 He Ha hy
 go_enter Tryd.func45,Tryd.ntmps45
 go_upto_region 1 with fail
 obtain ⟨Wd,Hd⟩:=mJ (w.alloc (.cells (aN a) 40))
 rw [<- Hd] at HN HB Hc Hf ⊢
 clear Hd
 have Hb:=HB.out
 obtain ⟨a0,-,a2⟩:=cz3 Hb
 have al:=Hb.lt
 clear Hb
 go_wp2
 go_ret
 exact ⟨zAb (zAd HY.out.2.symm),by rw [HY.out.1];exact HN.out.e,Hc.out⟩
theorem yAb (a:Scu.Act) (w:World) (base gx:Nat) (x:Scu.Net) (rv sv fv cv tv:Value) (hN:NetW w base gx x rv sv fv cv tv) (hb:base<=w.heap.size) (h3:x.replicas.length=3) (He:x.slots.length=3) (Ho:x.flying.length<=80) (r:Nat) (Hb:a.r=r) (Hf:r < 3) (hk:a.kind=9) (y:Scu.Net) (f:Int) (hy:Scu.crash x r=(y,f)):Calls Tryd.prog 45 #[.pointer (some ⟨gx,0,none⟩),.agg #[.int .i64 a.kind,.int .i64 a.c,.int .i64 a.r,.int .i64 a.k,.int .i64 a.n,.int .i64 a.op.kind,.int .i64 a.op.at_,.int .i64 a.op.snap,.string a.op.data]] w fun e w'=>e=.returned (.int .i64 f)/\NetE w' base gx y/\Fr base w w':=by
 have Hj:decide (a.r < 0)=false:=by rw [decide_eq_false_iff_not];omega
 have Hk:decide (3<=a.r)=false:=by rw [decide_eq_false_iff_not];omega
 have Hp:(a.kind == 9)=true:=by simpa using hk
 clear hk
 rw [Hb] at Hj Hk
 have Hl:=mA Hb
 clear Hb
 have Ha:=zAa w (.cells (aN a) 40)
 have HN:=mA (hN.below Ha)
 have HB:=mA (Blk.new w 40 (aN a))
 have Hc:=mA (Fr.of Ha hb)
 have Hm:=mA Ha
 have H3:=mA h3
 have Hn:=mA He
 have HY:=mA hy
 clear hN h3 He Ha hy
 go_enter Tryd.func45,Tryd.ntmps45
 go_upto_region 1 with fail
 obtain ⟨Wd,Hg⟩:=mJ (w.alloc (.cells (aN a) 40))
 rw [<- Hg] at HN HB Hc Hm ⊢
 clear Hg
 have Hd:=HB.out
 obtain ⟨a0,-,a2⟩:=cz3 Hd
 have al:=Hd.lt
 clear Hd
 rw [Hl.out] at a2
 go_wp2_with fail
 refine (zHm r Wd base gx x _ _ _ _ _ HN.out (mD hb Hc.out.size) (by rw [H3.out];exact Hf) (by rw [Hn.out];exact Hf) H3.out y f HY.out).mono ?_;rintro en w9 ⟨rfl,Hh,Hi⟩
 have H9:=mA (mB Hh (Hc.out.trans Hi))
 clear Hh Hi
 go_wp2
 go_ret
 exact ⟨rfl,H9.out.1,H9.out.2⟩
theorem yAc (a:Scu.Act) (w:World) (base gx:Nat) (x:Scu.Net) (rv sv fv cv tv:Value) (hN:NetW w base gx x rv sv fv cv tv) (hb:base<=w.heap.size) (h3:x.replicas.length=3) (Kc:x.slots.length=3) (Ko:x.flying.length<=80) (r:Nat) (Ka:a.r=r) (Va:r < 3) (hk:a.kind≠9) (Kd:a.kind≠5) (rr:Scu.Replica) (ms:List Scu.Message) (fr:Int) (hd:Scu.tick (x.replicas[r]'(by omega))=(rr,ms,fr)) (y:Scu.Net) (f:Int) (hy:(if fr≠0 then (x,fr) else Scu.settle x r rr ms (-1))=(y,f)):Calls Tryd.prog 45 #[.pointer (some ⟨gx,0,none⟩),.agg #[.int .i64 a.kind,.int .i64 a.c,.int .i64 a.r,.int .i64 a.k,.int .i64 a.n,.int .i64 a.op.kind,.int .i64 a.op.at_,.int .i64 a.op.snap,.string a.op.data]] w fun e w'=>e=.returned (.int .i64 f)/\NetE w' base gx y/\Fr base w w':=by
 have Kp:(a.kind == 5)=false:=by rw [beq_eq_false_iff_ne];exact Kd
 have Vb:(a.kind == 9)=false:=by rw [beq_eq_false_iff_ne];exact hk
 clear hk Kd
 have Kq:decide (a.r < 0)=false:=by rw [decide_eq_false_iff_not];omega
 have Kr:decide (3<=a.r)=false:=by rw [decide_eq_false_iff_not];omega
 rw [Ka] at Kq Kr
 have Ks:=mA Ka
 clear Ka
 obtain ⟨B0,e0,B1,e1,B2,e2,B3,e3,B4,e4,rfl,rfl,rfl,rfl,rfl⟩:=hN.forms
 have Kt:r < x.replicas.length:=by omega
 obtain ⟨gr,cr,lu0,Vc,wv0,gv0,nv0,er',Ku,He,Hw,Kb,-,curr,Kv⟩:=hN.repAt Kt
 obtain ⟨rfl,rfl⟩:B0=some ⟨gr,0,none⟩/\e0=cr:=by cases er';exact ⟨rfl,rfl⟩
 obtain ⟨rk,Ke⟩:=mK (x.replicas[r])
 rw [Ke] at Kb Hw hd
 obtain ⟨F0,p0,q0,F1,q1,F2,q2,F3,q3,F4,q4,rfl,rfl,rfl,rfl,rfl⟩:=Hw.forms
 have Kf:=mA Hw
 have Hg:=mA Kb
 have HD:=mA hd
 have Kw:(r:Int) < (x.replicas.length:Int):=by omega
 have Kx:(r:Int) < 3:=by omega
 clear er' Kb Hw Ke Kv Ku hd
 have Hx:=zAa w (.cells (aN a) 40)
 have HN:=mA (hN.below Hx)
 have HB:=mA (Blk.new w 40 (aN a))
 have Hl:=mA (Fr.of Hx hb)
 have Hc:=mA Hx
 have H3:=mA h3
 have Ky:=mA Kc
 have HY:=mA hy
 clear hN h3 Kc Hx hy
 go_enter Tryd.func45,Tryd.ntmps45
 go_upto_region 1 with fail
 obtain ⟨Wd,Kg⟩:=mJ (w.alloc (.cells (aN a) 40))
 rw [<- Kg] at HN HB Hl Hc ⊢
 clear Kg
 have Hi:=HB.out
 obtain ⟨a0,-,a2⟩:=cz3 Hi
 have al:=Hi.lt
 clear Hi
 rw [Ks.out] at a2
 have d0:=cz1 HN.out.box
 have dl:=HN.out.box.lt
 have t0:Wd.cell? ⟨gr,r*10,none⟩=some (.int .i64 rk.me):=(Hc.out.cell (p:=⟨gr,r*10,none⟩) He).trans (Hg.out 0 _ rfl)
 have t1:Wd.cell? ⟨gr,r*10+1,none⟩=some (.int .i64 rk.kept.view):=(Hc.out.cell (p:=⟨gr,r*10+1,none⟩) He).trans (Hg.out 1 _ rfl)
 have t2:Wd.cell? ⟨gr,r*10+2,none⟩=some (.int .i64 rk.kept.normal):=(Hc.out.cell (p:=⟨gr,r*10+2,none⟩) He).trans (Hg.out 2 _ rfl)
 have t3:Wd.cell? ⟨gr,r*10+3,none⟩=some (.bool rk.kept.calm):=(Hc.out.cell (p:=⟨gr,r*10+3,none⟩) He).trans (Hg.out 3 _ rfl)
 have t4:Wd.cell? ⟨gr,r*10+4,none⟩=some (.slice F0 p0 q0):=(Hc.out.cell (p:=⟨gr,r*10+4,none⟩) He).trans (Hg.out 4 _ rfl)
 have t5:Wd.cell? ⟨gr,r*10+5,none⟩=some (.int .i64 rk.kept.commit):=(Hc.out.cell (p:=⟨gr,r*10+5,none⟩) He).trans (Hg.out 5 _ rfl)
 have t6:Wd.cell? ⟨gr,r*10+6,none⟩=some (.slice F1 rk.have_.length q1):=(Hc.out.cell (p:=⟨gr,r*10+6,none⟩) He).trans (Hg.out 6 _ rfl)
 have t7:Wd.cell? ⟨gr,r*10+7,none⟩=some (.slice F2 rk.wants.length q2):=(Hc.out.cell (p:=⟨gr,r*10+7,none⟩) He).trans (Hg.out 7 _ rfl)
 have t8:Wd.cell? ⟨gr,r*10+8,none⟩=some (.slice F3 rk.gives.length q3):=(Hc.out.cell (p:=⟨gr,r*10+8,none⟩) He).trans (Hg.out 8 _ rfl)
 have t9:Wd.cell? ⟨gr,r*10+9,none⟩=some (.slice F4 rk.given.length q4):=(Hc.out.cell (p:=⟨gr,r*10+9,none⟩) He).trans (Hg.out 9 _ rfl)
 have gl:gr < Wd.heap.size:=mF He Hl.out.size
 go_wp2_with fail
 obtain ⟨S,Hd⟩:∃ S:World->Prop,S=fun w'=>Below Wd.heap.size Wd w':=⟨_,rfl⟩
 have Hb:S Wd.drew:=by rw [Hd];exact (mG _ _).drew
 refine wp_region_held (S:=S) (by kernel_rfl) ?_
 change wpAnyH _ _ _ _ _ _ _ _ Wd.drew
 have Hm:=fun (wv:World) (Ha:Below Wd.heap.size Wd wv)=>mB (cW Ha dl d0) (mB (cW Ha al a2) (mB (cW Ha gl t0) (mB (cW Ha gl t1) (mB (cW Ha gl t2) (mB (cW Ha gl t3) (mB (cW Ha gl t4) (mB (cW Ha gl t5) (mB (cW Ha gl t6) (mB (cW Ha gl t7) (mB (cW Ha gl t8) (cW Ha gl t9)))))))))))
 refine tkHs [0,1,2,3,4,5,6,7,8] (by kernel_rfl) (fun _ _ _ _ _ h=>h) Hb ?_
 iterate 9
  refine tkc (v:=?_) rfl (Or.inl ⟨by rfl,?_⟩) ?_
  rotate_left
  ·(intro wv Ha;rw [Hd] at Ha;obtain ⟨q0,q1,s0,s1,s2,s3,s4,s5,s6,s7,s8,s9⟩:=Hm wv Ha;go_simp;(try with_reducible rfl))
  (try simp only [Act.put,zp1,zp2,zp3])
 refine tkz ?_
 refine wpAnyH_all (rs:=[9,14]) (by kernel_rfl) (by simp) ?_
 intro ii Kh
 simp only [List.mem_cons,List.not_mem_nil,or_false] at Kh
 rcases Kh with rfl | rfl
 case' inl =>
  refine wpOp_step (o:=_) rfl (fun KS Hn=>?_)
  go_simp
  have dd:Below Wd.heap.size Wd Wd.drew:=(mG _ _).drew
  refine (zXo _ _ _ _ _ rk _ 0 (Kf.out.below (Hc.out.trans (dd.mono Hc.out.size))) rr ms fr HD.out).mono ?_;rintro en x1 ⟨⟨E0,m0,z0,E1,z1,E2,z2,E3,z3,E4,z4,Ao,co,rfl,Ho,Hp,Hq⟩,k1⟩
  have nn1:=dd.trans (k1.mono dd.size)
  have M1:=mA nn1
  have Hf:=mA (mB Ho (mB Hp (fun g hg=>mD dd.size (Hq g hg))))
  clear dd
  have Hb:S x1:=by rw [Hd];exact nn1
  refine Hn _ _ ⟨Hb,?_⟩
  clear Hn nn1 k1 Ho Hp Hq
  (try simp only [Act.put,zp1,zp2,zp3])
  refine tkHs [10,11,12,13] (by kernel_rfl) (fun _ _ _ _ _ h=>h) Hb ?_
  iterate 4
   refine tkc (v:=?_) rfl (Or.inl ⟨by rfl,?_⟩) ?_
   rotate_left
   ·(intro wv Ha;rw [Hd] at Ha;obtain ⟨q0,q1,s0,s1,s2,s3,s4,s5,s6,s7,s8,s9⟩:=Hm wv Ha;go_simp;(try with_reducible rfl))
   (try simp only [Act.put,zp1,zp2,zp3])
  refine tkz ?_
  refine alH 14 (by kernel_rfl) (wpOp_step (o:=_) rfl fun KA Hr=>?_)
  go_simp
  have Hb:S (x1.alloc (.cells zR 49)):=by rw [Hd];exact M1.out.alloc M1.out.size _
  refine Hr _ _ ⟨Hb,?_⟩
  (try simp only [Act.put,zp1,zp2,zp3])
  refine alH 15 (by kernel_rfl) (wpOp_step (o:=_) rfl fun KB Hs=>?_)
  rw [if_pos (by rfl)]
  refine wp_store_mid 49 (.tmp 6) (.tmp 38) rfl x1.heap.size 0 (rN rr E0 m0 z0 E1 z1 E2 z2 E3 z3 E4 z4) rfl rfl (zAs (Blk.new x1 49 zR)) (by kernel_rfl) (all_oneCell_toArray (zCo Hf.out.1)) ?_
  have Hj:S ((x1.alloc (.cells zR 49)).setCells x1.heap.size 0 (rL rr E0 m0 z0 E1 z1 E2 z2 E3 z3 E4 z4)):=by rw [Hd] at Hb ⊢;exact zAh M1.out.size _ 0 _ _ Hb
  refine Hs _ _ ⟨Hj,?_⟩
  have Hb:=Hj
  (try simp only [Act.put,zp1,zp2,zp3])
  change wpAnyH _ _ _ _ _ _ _ _ ((x1.alloc (.cells zR 49)).setCells x1.heap.size 0 (rL rr E0 m0 z0 E1 z1 E2 z2 E3 z3 E4 z4))
  refine tkHs [16,17] (by kernel_rfl) (fun _ _ _ _ _ h=>h) Hb ?_
  iterate 2
   refine tkc (v:=?_) rfl (Or.inl ⟨by rfl,?_⟩) ?_
   rotate_left
   ·(intro wv Ha;rw [Hd] at Ha;obtain ⟨q0,q1,s0,s1,s2,s3,s4,s5,s6,s7,s8,s9⟩:=Hm wv Ha;go_simp;(try with_reducible rfl))
   (try simp only [Act.put,zp1,zp2,zp3])
  refine tkz ?_
  refine wpAnyH_done (by kernel_rfl) ?_ _
  have HQ:=mA (zCe Hf.out.1 Hf.out.2.1 (M1.out.alloc M1.out.size _) (Blk.new x1 49 zR) M1.out.size (zAa x1 _))
  have Ht:=mA Hf.out.2.2
  obtain ⟨gb,Ki⟩:=mK (x1.heap.size)
  obtain ⟨W3,Hu⟩:=mJ ((x1.alloc (.cells zR 49)).setCells x1.heap.size 0 (rL rr E0 m0 z0 E1 z1 E2 z2 E3 z3 E4 z4))
  change Exit.then _ _ _ _ ((x1.alloc (.cells zR 49)).setCells x1.heap.size 0 (rL rr E0 m0 z0 E1 z1 E2 z2 E3 z3 E4 z4))
  rw [<- Hu] at HQ ⊢
  rw [Ki] at HQ ⊢
  clear Hu Ki Hb Hj Hd Hr Hs Hf
 case' inr =>
  refine wpOp_step (o:=_) rfl (fun KA Hr=>?_)
  go_simp
  have dd:Below Wd.heap.size Wd (Wd.drew.alloc (.cells zR 49)):=(mG _ _).drew.alloc (mC _) _
  have Hb:S (Wd.drew.alloc (.cells zR 49)):=by rw [Hd];exact dd
  refine Hr _ _ ⟨Hb,?_⟩
  (try simp only [Act.put,zp1,zp2,zp3])
  refine alH 9 (by kernel_rfl) (wpOp_step (o:=_) rfl fun KS Hn=>?_)
  go_simp
  refine (zXo _ _ _ _ _ rk _ 0 (Kf.out.below (Hc.out.trans (dd.mono Hc.out.size))) rr ms fr HD.out).mono ?_;rintro en x1 ⟨⟨E0,m0,z0,E1,z1,E2,z2,E3,z3,E4,z4,Ao,co,rfl,Ho,Hp,Hq⟩,k1⟩
  have nn1:=dd.trans (k1.mono dd.size)
  have M1:=mA nn1
  have Hf:=mA (mB Ho (mB Hp (fun g hg=>mD dd.size (Hq g hg))))
  have HZ:=mA ((Blk.new' (w:=Wd.drew) (g:=Wd.heap.size) (t:=49) (cs:=zR) rfl).same k1)
  clear dd
  have Hb:S x1:=by rw [Hd];exact nn1
  refine Hn _ _ ⟨Hb,?_⟩
  clear Hn nn1 k1 Ho Hp Hq
  (try simp only [Act.put,zp1,zp2,zp3])
  refine tkHs [10,11,12,13] (by kernel_rfl) (fun _ _ _ _ _ h=>h) Hb ?_
  iterate 4
   refine tkc (v:=?_) rfl (Or.inl ⟨by rfl,?_⟩) ?_
   rotate_left
   ·(intro wv Ha;rw [Hd] at Ha;obtain ⟨q0,q1,s0,s1,s2,s3,s4,s5,s6,s7,s8,s9⟩:=Hm wv Ha;go_simp;(try with_reducible rfl))
   (try simp only [Act.put,zp1,zp2,zp3])
  refine tkz ?_
  refine alH 15 (by kernel_rfl) (wpOp_step (o:=_) rfl fun KB Hs=>?_)
  rw [if_pos (by rfl)]
  refine wp_store_mid 49 (.tmp 6) (.tmp 38) rfl Wd.heap.size 0 (rN rr E0 m0 z0 E1 z1 E2 z2 E3 z3 E4 z4) rfl rfl (zAs HZ.out) (by kernel_rfl) (all_oneCell_toArray (zCo Hf.out.1)) ?_
  have Hj:S (x1.setCells Wd.heap.size 0 (rL rr E0 m0 z0 E1 z1 E2 z2 E3 z3 E4 z4)):=by rw [Hd] at Hb ⊢;exact zAh (mC _) _ 0 _ _ Hb
  refine Hs _ _ ⟨Hj,?_⟩
  have Hb:=Hj
  (try simp only [Act.put,zp1,zp2,zp3])
  change wpAnyH _ _ _ _ _ _ _ _ (x1.setCells Wd.heap.size 0 (rL rr E0 m0 z0 E1 z1 E2 z2 E3 z3 E4 z4))
  refine tkHs [16,17] (by kernel_rfl) (fun _ _ _ _ _ h=>h) Hb ?_
  iterate 2
   refine tkc (v:=?_) rfl (Or.inl ⟨by rfl,?_⟩) ?_
   rotate_left
   ·(intro wv Ha;rw [Hd] at Ha;obtain ⟨q0,q1,s0,s1,s2,s3,s4,s5,s6,s7,s8,s9⟩:=Hm wv Ha;go_simp;(try with_reducible rfl))
   (try simp only [Act.put,zp1,zp2,zp3])
  refine tkz ?_
  refine wpAnyH_done (by kernel_rfl) ?_ _
  have HQ:=mA (zCe Hf.out.1 Hf.out.2.1 M1.out HZ.out (mC _) (mG _ _))
  have Ht:=mA Hf.out.2.2
  obtain ⟨W3,Hu⟩:=mJ (x1.setCells Wd.heap.size 0 (rL rr E0 m0 z0 E1 z1 E2 z2 E3 z3 E4 z4))
  change Exit.then _ _ _ _ (x1.setCells Wd.heap.size 0 (rL rr E0 m0 z0 E1 z1 E2 z2 E3 z3 E4 z4))
  rw [<- Hu] at HQ ⊢
  clear Hu Hb Hj Hd Hr Hs Hf HZ
 all_goals
  have a2':W3.cell? ⟨w.heap.size,2,none⟩=some (.int .i64 (r:Int)):=cW HQ.out.1 al a2
  clear d0 a0 a2 t0 t1 t2 t3 t4 t5 t6 t7 t8 t9
  have Kj:=HN.out.below HQ.out.1
  have Kk:base<=W3.heap.size:=mD (mD hb Hl.out.size) HQ.out.1.size
  have Kl:=Hl.out.trans (Fr.of HQ.out.1 (mD hb Hl.out.size))
  have Hv:∀ g,(Value.slice Ao ms.length co).ownBlock=some g->(Value.slice B2 x.flying.length e2).ownBlock≠some g:=fun g hg e=>by
   have h1:=Ht.out g hg
   obtain ⟨_,Kz⟩:=HN.out.fly
   have h2:=(Kz.lt g e).2
   omega
  have Hk:=mA (mB Kj (mB Kk (mB Kl Hv)))
  have Hi:=HQ.out.2.1
  obtain ⟨b0,b1,b2,b3,b4,b5,b6,b7,b8,b9⟩:=cz10 Hi
  have bl:=Hi.lt
  clear Hi Kj Kk Kl Hv
  by_cases Hy:fr=0
  ·subst Hy
   have Hz:=mA (show Scu.settle (x) r rr ms (-1)=(y,f) by have h:=HY.out;rw [if_neg (by simp)] at h;exact h)
   go_wp2_with fail
   have Hh:=zDr r rr _ _ _ _ _ Ao co ms (-1) W3 base gx (x) _ _ _ _ _ Hk.out.1 Hk.out.2.1 (by rw [H3.out];omega) (by rw [Ky.out];omega) H3.out HQ.out.2.2.1 HQ.out.2.2.2 Hk.out.2.2.2 (Ko) y f Hz.out
   skip
   refine Hh.mono ?_;clear Hh;rintro en w9 ⟨rfl,Km,Kn⟩
   have H9:=mA (mB Km (Hk.out.2.2.1.trans Kn))
   clear Km Kn
   go_wp2
   go_ret
   exact ⟨rfl,H9.out.1,H9.out.2⟩
  ·have Vd:(fr != 0)=true:=by simpa using Hy
   have Hz:=mA (show y=x/\f=fr by have h:=HY.out;rw [if_pos Hy] at h;exact ⟨(Prod.mk.inj h).1.symm,(Prod.mk.inj h).2.symm⟩)
   clear Hy
   go_wp2
   go_ret
   exact ⟨zAb (zAd Hz.out.2.symm),by rw [Hz.out.1];exact Hk.out.1.e,Hk.out.2.2.1⟩
theorem yAd (a:Scu.Act) (w:World) (base gx:Nat) (x:Scu.Net) (rv sv fv cv tv:Value) (hN:NetW w base gx x rv sv fv cv tv) (hb:base<=w.heap.size) (h3:x.replicas.length=3) (Kc:x.slots.length=3) (Ko:x.flying.length<=80) (r:Nat) (Ka:a.r=r) (Va:r < 3) (Kd:a.kind=5) (rr:Scu.Replica) (ms:List Scu.Message) (fr:Int) (hd:Scu.alarm (x.replicas[r]'(by omega))=(rr,ms,fr)) (y:Scu.Net) (f:Int) (hy:(if fr≠0 then (x,fr) else Scu.settle x r rr ms (-1))=(y,f)):Calls Tryd.prog 45 #[.pointer (some ⟨gx,0,none⟩),.agg #[.int .i64 a.kind,.int .i64 a.c,.int .i64 a.r,.int .i64 a.k,.int .i64 a.n,.int .i64 a.op.kind,.int .i64 a.op.at_,.int .i64 a.op.snap,.string a.op.data]] w fun e w'=>e=.returned (.int .i64 f)/\NetE w' base gx y/\Fr base w w':=by
 have Kp:(a.kind == 5)=true:=by rw [beq_iff_eq];exact Kd
 have Vb:(a.kind == 9)=false:=by rw [beq_eq_false_iff_ne];omega
 clear Kd
 have Kq:decide (a.r < 0)=false:=by rw [decide_eq_false_iff_not];omega
 have Kr:decide (3<=a.r)=false:=by rw [decide_eq_false_iff_not];omega
 rw [Ka] at Kq Kr
 have Ks:=mA Ka
 clear Ka
 obtain ⟨B0,e0,B1,e1,B2,e2,B3,e3,B4,e4,rfl,rfl,rfl,rfl,rfl⟩:=hN.forms
 have Kt:r < x.replicas.length:=by omega
 obtain ⟨gr,cr,lu0,Vc,wv0,gv0,nv0,er',Ku,He,Hw,Kb,-,curr,Kv⟩:=hN.repAt Kt
 obtain ⟨rfl,rfl⟩:B0=some ⟨gr,0,none⟩/\e0=cr:=by cases er';exact ⟨rfl,rfl⟩
 obtain ⟨rk,Ke⟩:=mK (x.replicas[r])
 rw [Ke] at Kb Hw hd
 obtain ⟨F0,p0,q0,F1,q1,F2,q2,F3,q3,F4,q4,rfl,rfl,rfl,rfl,rfl⟩:=Hw.forms
 have Kf:=mA Hw
 have Hg:=mA Kb
 have HD:=mA hd
 have Kw:(r:Int) < (x.replicas.length:Int):=by omega
 have Kx:(r:Int) < 3:=by omega
 clear er' Kb Hw Ke Kv Ku hd
 have Hx:=zAa w (.cells (aN a) 40)
 have HN:=mA (hN.below Hx)
 have HB:=mA (Blk.new w 40 (aN a))
 have Hl:=mA (Fr.of Hx hb)
 have Hc:=mA Hx
 have H3:=mA h3
 have Ky:=mA Kc
 have HY:=mA hy
 clear hN h3 Kc Hx hy
 go_enter Tryd.func45,Tryd.ntmps45
 go_upto_region 1 with fail
 obtain ⟨Wd,Kg⟩:=mJ (w.alloc (.cells (aN a) 40))
 rw [<- Kg] at HN HB Hl Hc ⊢
 clear Kg
 have Hi:=HB.out
 obtain ⟨a0,-,a2⟩:=cz3 Hi
 have al:=Hi.lt
 clear Hi
 rw [Ks.out] at a2
 have d0:=cz1 HN.out.box
 have dl:=HN.out.box.lt
 have t0:Wd.cell? ⟨gr,r*10,none⟩=some (.int .i64 rk.me):=(Hc.out.cell (p:=⟨gr,r*10,none⟩) He).trans (Hg.out 0 _ rfl)
 have t1:Wd.cell? ⟨gr,r*10+1,none⟩=some (.int .i64 rk.kept.view):=(Hc.out.cell (p:=⟨gr,r*10+1,none⟩) He).trans (Hg.out 1 _ rfl)
 have t2:Wd.cell? ⟨gr,r*10+2,none⟩=some (.int .i64 rk.kept.normal):=(Hc.out.cell (p:=⟨gr,r*10+2,none⟩) He).trans (Hg.out 2 _ rfl)
 have t3:Wd.cell? ⟨gr,r*10+3,none⟩=some (.bool rk.kept.calm):=(Hc.out.cell (p:=⟨gr,r*10+3,none⟩) He).trans (Hg.out 3 _ rfl)
 have t4:Wd.cell? ⟨gr,r*10+4,none⟩=some (.slice F0 p0 q0):=(Hc.out.cell (p:=⟨gr,r*10+4,none⟩) He).trans (Hg.out 4 _ rfl)
 have t5:Wd.cell? ⟨gr,r*10+5,none⟩=some (.int .i64 rk.kept.commit):=(Hc.out.cell (p:=⟨gr,r*10+5,none⟩) He).trans (Hg.out 5 _ rfl)
 have t6:Wd.cell? ⟨gr,r*10+6,none⟩=some (.slice F1 rk.have_.length q1):=(Hc.out.cell (p:=⟨gr,r*10+6,none⟩) He).trans (Hg.out 6 _ rfl)
 have t7:Wd.cell? ⟨gr,r*10+7,none⟩=some (.slice F2 rk.wants.length q2):=(Hc.out.cell (p:=⟨gr,r*10+7,none⟩) He).trans (Hg.out 7 _ rfl)
 have t8:Wd.cell? ⟨gr,r*10+8,none⟩=some (.slice F3 rk.gives.length q3):=(Hc.out.cell (p:=⟨gr,r*10+8,none⟩) He).trans (Hg.out 8 _ rfl)
 have t9:Wd.cell? ⟨gr,r*10+9,none⟩=some (.slice F4 rk.given.length q4):=(Hc.out.cell (p:=⟨gr,r*10+9,none⟩) He).trans (Hg.out 9 _ rfl)
 have gl:gr < Wd.heap.size:=mF He Hl.out.size
 go_wp2_with fail
 obtain ⟨S,Hd⟩:∃ S:World->Prop,S=fun w'=>Below Wd.heap.size Wd w':=⟨_,rfl⟩
 have Hb:S Wd.drew:=by rw [Hd];exact (mG _ _).drew
 refine wp_region_held (S:=S) (by kernel_rfl) ?_
 change wpAnyH _ _ _ _ _ _ _ _ Wd.drew
 have Hm:=fun (wv:World) (Ha:Below Wd.heap.size Wd wv)=>mB (cW Ha dl d0) (mB (cW Ha al a2) (mB (cW Ha gl t0) (mB (cW Ha gl t1) (mB (cW Ha gl t2) (mB (cW Ha gl t3) (mB (cW Ha gl t4) (mB (cW Ha gl t5) (mB (cW Ha gl t6) (mB (cW Ha gl t7) (mB (cW Ha gl t8) (cW Ha gl t9)))))))))))
 refine tkHs [0,1,2,3,4,5,6,7,8] (by kernel_rfl) (fun _ _ _ _ _ h=>h) Hb ?_
 iterate 9
  refine tkc (v:=?_) rfl (Or.inl ⟨by rfl,?_⟩) ?_
  rotate_left
  ·(intro wv Ha;rw [Hd] at Ha;obtain ⟨q0,q1,s0,s1,s2,s3,s4,s5,s6,s7,s8,s9⟩:=Hm wv Ha;go_simp;(try with_reducible rfl))
  (try simp only [Act.put,zp1,zp2,zp3])
 refine tkz ?_
 refine wpAnyH_all (rs:=[9,14]) (by kernel_rfl) (by simp) ?_
 intro ii Kh
 simp only [List.mem_cons,List.not_mem_nil,or_false] at Kh
 rcases Kh with rfl | rfl
 case' inl =>
  refine wpOp_step (o:=_) rfl (fun KS Hn=>?_)
  go_simp
  have dd:Below Wd.heap.size Wd Wd.drew:=(mG _ _).drew
  refine (zTl _ _ _ _ _ rk _ 0 (Kf.out.below (Hc.out.trans (dd.mono Hc.out.size))) rr ms fr HD.out).mono ?_;rintro en x1 ⟨⟨E0,m0,z0,E1,z1,E2,z2,E3,z3,E4,z4,Ao,co,rfl,Ho,Hp,Hq⟩,k1⟩
  have nn1:=dd.trans (k1.mono dd.size)
  have M1:=mA nn1
  have Hf:=mA (mB Ho (mB Hp (fun g hg=>mD dd.size (Hq g hg))))
  clear dd
  have Hb:S x1:=by rw [Hd];exact nn1
  refine Hn _ _ ⟨Hb,?_⟩
  clear Hn nn1 k1 Ho Hp Hq
  (try simp only [Act.put,zp1,zp2,zp3])
  refine tkHs [10,11,12,13] (by kernel_rfl) (fun _ _ _ _ _ h=>h) Hb ?_
  iterate 4
   refine tkc (v:=?_) rfl (Or.inl ⟨by rfl,?_⟩) ?_
   rotate_left
   ·(intro wv Ha;rw [Hd] at Ha;obtain ⟨q0,q1,s0,s1,s2,s3,s4,s5,s6,s7,s8,s9⟩:=Hm wv Ha;go_simp;(try with_reducible rfl))
   (try simp only [Act.put,zp1,zp2,zp3])
  refine tkz ?_
  refine alH 14 (by kernel_rfl) (wpOp_step (o:=_) rfl fun KA Hr=>?_)
  go_simp
  have Hb:S (x1.alloc (.cells zR 49)):=by rw [Hd];exact M1.out.alloc M1.out.size _
  refine Hr _ _ ⟨Hb,?_⟩
  (try simp only [Act.put,zp1,zp2,zp3])
  refine alH 15 (by kernel_rfl) (wpOp_step (o:=_) rfl fun KB Hs=>?_)
  rw [if_pos (by rfl)]
  refine wp_store_mid 49 (.tmp 6) (.tmp 38) rfl x1.heap.size 0 (rN rr E0 m0 z0 E1 z1 E2 z2 E3 z3 E4 z4) rfl rfl (zAs (Blk.new x1 49 zR)) (by kernel_rfl) (all_oneCell_toArray (zCo Hf.out.1)) ?_
  have Hj:S ((x1.alloc (.cells zR 49)).setCells x1.heap.size 0 (rL rr E0 m0 z0 E1 z1 E2 z2 E3 z3 E4 z4)):=by rw [Hd] at Hb ⊢;exact zAh M1.out.size _ 0 _ _ Hb
  refine Hs _ _ ⟨Hj,?_⟩
  have Hb:=Hj
  (try simp only [Act.put,zp1,zp2,zp3])
  change wpAnyH _ _ _ _ _ _ _ _ ((x1.alloc (.cells zR 49)).setCells x1.heap.size 0 (rL rr E0 m0 z0 E1 z1 E2 z2 E3 z3 E4 z4))
  refine tkHs [16,17] (by kernel_rfl) (fun _ _ _ _ _ h=>h) Hb ?_
  iterate 2
   refine tkc (v:=?_) rfl (Or.inl ⟨by rfl,?_⟩) ?_
   rotate_left
   ·(intro wv Ha;rw [Hd] at Ha;obtain ⟨q0,q1,s0,s1,s2,s3,s4,s5,s6,s7,s8,s9⟩:=Hm wv Ha;go_simp;(try with_reducible rfl))
   (try simp only [Act.put,zp1,zp2,zp3])
  refine tkz ?_
  refine wpAnyH_done (by kernel_rfl) ?_ _
  have HQ:=mA (zCe Hf.out.1 Hf.out.2.1 (M1.out.alloc M1.out.size _) (Blk.new x1 49 zR) M1.out.size (zAa x1 _))
  have Ht:=mA Hf.out.2.2
  obtain ⟨gb,Ki⟩:=mK (x1.heap.size)
  obtain ⟨W3,Hu⟩:=mJ ((x1.alloc (.cells zR 49)).setCells x1.heap.size 0 (rL rr E0 m0 z0 E1 z1 E2 z2 E3 z3 E4 z4))
  change Exit.then _ _ _ _ ((x1.alloc (.cells zR 49)).setCells x1.heap.size 0 (rL rr E0 m0 z0 E1 z1 E2 z2 E3 z3 E4 z4))
  rw [<- Hu] at HQ ⊢
  rw [Ki] at HQ ⊢
  clear Hu Ki Hb Hj Hd Hr Hs Hf
 case' inr =>
  refine wpOp_step (o:=_) rfl (fun KA Hr=>?_)
  go_simp
  have dd:Below Wd.heap.size Wd (Wd.drew.alloc (.cells zR 49)):=(mG _ _).drew.alloc (mC _) _
  have Hb:S (Wd.drew.alloc (.cells zR 49)):=by rw [Hd];exact dd
  refine Hr _ _ ⟨Hb,?_⟩
  (try simp only [Act.put,zp1,zp2,zp3])
  refine alH 9 (by kernel_rfl) (wpOp_step (o:=_) rfl fun KS Hn=>?_)
  go_simp
  refine (zTl _ _ _ _ _ rk _ 0 (Kf.out.below (Hc.out.trans (dd.mono Hc.out.size))) rr ms fr HD.out).mono ?_;rintro en x1 ⟨⟨E0,m0,z0,E1,z1,E2,z2,E3,z3,E4,z4,Ao,co,rfl,Ho,Hp,Hq⟩,k1⟩
  have nn1:=dd.trans (k1.mono dd.size)
  have M1:=mA nn1
  have Hf:=mA (mB Ho (mB Hp (fun g hg=>mD dd.size (Hq g hg))))
  have HZ:=mA ((Blk.new' (w:=Wd.drew) (g:=Wd.heap.size) (t:=49) (cs:=zR) rfl).same k1)
  clear dd
  have Hb:S x1:=by rw [Hd];exact nn1
  refine Hn _ _ ⟨Hb,?_⟩
  clear Hn nn1 k1 Ho Hp Hq
  (try simp only [Act.put,zp1,zp2,zp3])
  refine tkHs [10,11,12,13] (by kernel_rfl) (fun _ _ _ _ _ h=>h) Hb ?_
  iterate 4
   refine tkc (v:=?_) rfl (Or.inl ⟨by rfl,?_⟩) ?_
   rotate_left
   ·(intro wv Ha;rw [Hd] at Ha;obtain ⟨q0,q1,s0,s1,s2,s3,s4,s5,s6,s7,s8,s9⟩:=Hm wv Ha;go_simp;(try with_reducible rfl))
   (try simp only [Act.put,zp1,zp2,zp3])
  refine tkz ?_
  refine alH 15 (by kernel_rfl) (wpOp_step (o:=_) rfl fun KB Hs=>?_)
  rw [if_pos (by rfl)]
  refine wp_store_mid 49 (.tmp 6) (.tmp 38) rfl Wd.heap.size 0 (rN rr E0 m0 z0 E1 z1 E2 z2 E3 z3 E4 z4) rfl rfl (zAs HZ.out) (by kernel_rfl) (all_oneCell_toArray (zCo Hf.out.1)) ?_
  have Hj:S (x1.setCells Wd.heap.size 0 (rL rr E0 m0 z0 E1 z1 E2 z2 E3 z3 E4 z4)):=by rw [Hd] at Hb ⊢;exact zAh (mC _) _ 0 _ _ Hb
  refine Hs _ _ ⟨Hj,?_⟩
  have Hb:=Hj
  (try simp only [Act.put,zp1,zp2,zp3])
  change wpAnyH _ _ _ _ _ _ _ _ (x1.setCells Wd.heap.size 0 (rL rr E0 m0 z0 E1 z1 E2 z2 E3 z3 E4 z4))
  refine tkHs [16,17] (by kernel_rfl) (fun _ _ _ _ _ h=>h) Hb ?_
  iterate 2
   refine tkc (v:=?_) rfl (Or.inl ⟨by rfl,?_⟩) ?_
   rotate_left
   ·(intro wv Ha;rw [Hd] at Ha;obtain ⟨q0,q1,s0,s1,s2,s3,s4,s5,s6,s7,s8,s9⟩:=Hm wv Ha;go_simp;(try with_reducible rfl))
   (try simp only [Act.put,zp1,zp2,zp3])
  refine tkz ?_
  refine wpAnyH_done (by kernel_rfl) ?_ _
  have HQ:=mA (zCe Hf.out.1 Hf.out.2.1 M1.out HZ.out (mC _) (mG _ _))
  have Ht:=mA Hf.out.2.2
  obtain ⟨W3,Hu⟩:=mJ (x1.setCells Wd.heap.size 0 (rL rr E0 m0 z0 E1 z1 E2 z2 E3 z3 E4 z4))
  change Exit.then _ _ _ _ (x1.setCells Wd.heap.size 0 (rL rr E0 m0 z0 E1 z1 E2 z2 E3 z3 E4 z4))
  rw [<- Hu] at HQ ⊢
  clear Hu Hb Hj Hd Hr Hs Hf HZ
 all_goals
  have a2':W3.cell? ⟨w.heap.size,2,none⟩=some (.int .i64 (r:Int)):=cW HQ.out.1 al a2
  clear d0 a0 a2 t0 t1 t2 t3 t4 t5 t6 t7 t8 t9
  have Kj:=HN.out.below HQ.out.1
  have Kk:base<=W3.heap.size:=mD (mD hb Hl.out.size) HQ.out.1.size
  have Kl:=Hl.out.trans (Fr.of HQ.out.1 (mD hb Hl.out.size))
  have Hv:∀ g,(Value.slice Ao ms.length co).ownBlock=some g->(Value.slice B2 x.flying.length e2).ownBlock≠some g:=fun g hg e=>by
   have h1:=Ht.out g hg
   obtain ⟨_,Kz⟩:=HN.out.fly
   have h2:=(Kz.lt g e).2
   omega
  have Hk:=mA (mB Kj (mB Kk (mB Kl Hv)))
  have Hi:=HQ.out.2.1
  obtain ⟨b0,b1,b2,b3,b4,b5,b6,b7,b8,b9⟩:=cz10 Hi
  have bl:=Hi.lt
  clear Hi Kj Kk Kl Hv
  by_cases Hy:fr=0
  ·subst Hy
   have Hz:=mA (show Scu.settle (x) r rr ms (-1)=(y,f) by have h:=HY.out;rw [if_neg (by simp)] at h;exact h)
   go_wp2_with fail
   have Hh:=zDr r rr _ _ _ _ _ Ao co ms (-1) W3 base gx (x) _ _ _ _ _ Hk.out.1 Hk.out.2.1 (by rw [H3.out];omega) (by rw [Ky.out];omega) H3.out HQ.out.2.2.1 HQ.out.2.2.2 Hk.out.2.2.2 (Ko) y f Hz.out
   skip
   refine Hh.mono ?_;clear Hh;rintro en w9 ⟨rfl,Km,Kn⟩
   have H9:=mA (mB Km (Hk.out.2.2.1.trans Kn))
   clear Km Kn
   go_wp2
   go_ret
   exact ⟨rfl,H9.out.1,H9.out.2⟩
  ·have Vd:(fr != 0)=true:=by simpa using Hy
   have Hz:=mA (show y=x/\f=fr by have h:=HY.out;rw [if_pos Hy] at h;exact ⟨(Prod.mk.inj h).1.symm,(Prod.mk.inj h).2.symm⟩)
   clear Hy
   go_wp2
   go_ret
   exact ⟨zAb (zAd Hz.out.2.symm),by rw [Hz.out.1];exact Hk.out.1.e,Hk.out.2.2.1⟩
theorem zOw (a:Scu.Act) (w:World) (base gx:Nat) (x:Scu.Net) (rv sv fv cv tv:Value) (hN:NetW w base gx x rv sv fv cv tv) (hb:base<=w.heap.size) (h3:x.replicas.length=3) (Hb:x.slots.length=3) (Hc:x.flying.length<=80) (y:Scu.Net) (f:Int) (hy:Scu.actAt x a=(y,f)):Calls Tryd.prog 45 #[.pointer (some ⟨gx,0,none⟩),.agg #[.int .i64 a.kind,.int .i64 a.c,.int .i64 a.r,.int .i64 a.k,.int .i64 a.n,.int .i64 a.op.kind,.int .i64 a.op.at_,.int .i64 a.op.snap,.string a.op.data]] w fun e w'=>e=.returned (.int .i64 f)/\NetE w' base gx y/\Fr base w w':=by
 unfold Scu.actAt at hy
 by_cases hr:a.r < 0\/3<=a.r
 ·rw [if_pos hr] at hy
  exact yAa a w base gx x rv sv fv cv tv hN hb h3 Hb Hc hr y f ⟨(Prod.mk.inj hy).1.symm,(Prod.mk.inj hy).2.symm⟩
 rw [if_neg hr] at hy
 obtain ⟨r,Ha⟩:=Int.eq_ofNat_of_zero_le (show 0<=a.r by omega)
 have Hd:r < 3:=by omega
 have hg:x.replicas.getD a.r.toNat Scu.replica0=x.replicas[r]'(by omega):=by rw [Ha,Int.toNat_natCast,mI,mH (by omega)];rfl
 by_cases hk:a.kind=9
 ·rw [if_pos hk,Ha,Int.toNat_natCast] at hy
  exact yAb a w base gx x rv sv fv cv tv hN hb h3 Hb Hc r Ha Hd hk y f hy
 rw [if_neg hk,hg] at hy
 rw [Ha,Int.toNat_natCast] at hy
 by_cases hk5:a.kind=5
 ·rw [if_pos hk5] at hy
  exact yAd a w base gx x rv sv fv cv tv hN hb h3 Hb Hc r Ha Hd hk5 _ _ _ rfl y f hy
 rw [if_neg hk5] at hy
 exact yAc a w base gx x rv sv fv cv tv hN hb h3 Hb Hc r Ha Hd hk hk5 _ _ _ rfl y f hy
end Go.Proofs.YtnpphdaakookcaaDoor
