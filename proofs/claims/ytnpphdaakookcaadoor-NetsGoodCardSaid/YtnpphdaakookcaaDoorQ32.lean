/- Part 32: words and walks under the laws of the whole. -/
import Derived.Test.YtnpphdaakookcaaDoorQ31
set_option linter.unusedVariables false
set_option linter.unusedSimpArgs false
set_option maxHeartbeats 4000000
set_option maxRecDepth 100000
namespace Go.Proofs.YtnpphdaakookcaaDoor
open Go.RowKit
theorem zBa {P:Program} {ops:Array Oper} {Q:Exit->Act->World->Prop} {md:Region.Mode} {S:World->Prop} {T:List Nat} {i:Nat} (f:Nat) {oi:Oper} {v:Value} {fuel:Nat} {listed:Array Bool} {a:Act} {w:World} (hi:ops.toList[i]? = some oi)
 (hs:Region.noSelect ops=true) (hf:Region.free md ops listed i=true) (hr:(Region.ready md ops listed).contains i=true) (Ha:(T.all fun t=>reachB md ops i f t)=true)
 (hQ:∀ c a w,Q (.panic c) (a.put oi.dst v) w->Q (.panic c) a w) (hy:YieldsIf P ops S oi v a) (Hb:ShutL md ops listed) (hS:S w)
 (h:ShutL md ops (listed.setIfInBounds i true)->wpAnyF P md ops Q S T fuel (listed.setIfInBounds i true) (a.put oi.dst v) w):wpAnyF P md ops Q S T (fuel+1) listed a w :=
 zOh f (by rw [<- Array.getElem?_toList];exact hi) hs hf hr Ha hQ hy Hb hS h
theorem zZx (a:Scu.Act) (w:World) (base gx:Nat) (x:Scu.Net) (rv sv fv cv tv:Value) (hN:NetW w base gx x rv sv fv cv tv) (hb:base<=w.heap.size) (h3:x.replicas.length=3) (Ka:x.slots.length=3) (Vm:x.flying.length<=80) (c:Nat) (Hq:a.c=c) (hc:c < x.clients.length) (r:Nat) (Hr:a.r=r) (Vn:r < 3) (Kb:a.kind≠1) (hw:x.clients[c].wait.num≠0) (Kc:a.kind=3) (hid:x.clients[c].id=(c:Int)+1) (Vo:x.clients.length<=4) (Kr:x.told.length<=1000)
 (Hh:∀ h:r < x.replicas.length,0<=x.replicas[r].kept.view/\0<=x.replicas[r].kept.commit/\x.replicas[r].kept.commit<=x.replicas[r].kept.log.length/\∀ st,Scu.play (x.replicas[r].kept.log.take x.replicas[r].kept.commit.toNat)=(st,0)->st.lasts.length=4)
 (y:Scu.Net) (f:Int) (hy:∀ h:r < x.replicas.length,Scu.answer x c x.replicas[r]=(y,f)):Calls Tryd.prog 44 #[.pointer (some ⟨gx,0,none⟩),.agg #[.int .i64 a.kind,.int .i64 a.c,.int .i64 a.r,.int .i64 a.k,.int .i64 a.n,.int .i64 a.op.kind,.int .i64 a.op.at_,.int .i64 a.op.snap,.string a.op.data]] w fun e w'=>e=.returned (.int .i64 f)/\NetE w' base gx y/\Fr base w w':=by
 have Ks:(a.kind == 3)=true:=by rw [beq_iff_eq];exact Kc
 have Hs:=mA Hh
 have Kt:=mA hid
 clear Hh hid Kc
 have Ku:decide (a.r < 0)=false:=by rw [decide_eq_false_iff_not];omega
 have Kv:decide (3<=a.r)=false:=by rw [decide_eq_false_iff_not];omega
 rw [Hr] at Ku Kv
 have Kw:=mA Hr
 have Kx:(r:Int) < 3:=by omega
 have Ht:r < x.replicas.length:=by omega
 have Vp:(r:Int) < (x.replicas.length:Int):=by omega
 clear Hr
 have Ky:(a.kind == 1)=false:=by rw [beq_eq_false_iff_ne];exact Kb
 have HW:=mA hw
 clear Kb hw
 have Kz:decide (a.c < 0)=false:=by rw [decide_eq_false_iff_not];omega
 have Va:decide ((x.clients.length:Int)<=a.c)=false:=by rw [decide_eq_false_iff_not];omega
 rw [Hq] at Kz Va
 have Vb:=mA Hq
 clear Hq
 obtain ⟨B0,e0,B1,e1,B2,e2,B3,e3,B4,e4,rfl,rfl,rfl,rfl,rfl⟩:=hN.forms
 have Hk:=zAa w (.cells (aN a) 40)
 have HN:=mA (hN.below Hk)
 have HB:=mA (Blk.new w 40 (aN a))
 have Hl:=mA (Fr.of Hk hb)
 have Hm:=mA Hk
 have H3:=mA h3
 have Vq:=mA Ka
 have HY:=mA hy
 clear hN h3 Ka Hk hy
 go_enter Tryd.func44,Tryd.ntmps44
 go_upto_region 1 with fail
 obtain ⟨Wd,Kd⟩:=mJ (w.alloc (.cells (aN a) 40))
 rw [<- Kd] at HN HB Hl Hm ⊢
 clear Kd
 have Hu:=HB.out
 obtain ⟨a0,a1,a2,-,-,a5,a6,a7,a8⟩:=cz9 Hu
 obtain ⟨-,-,-,d3⟩:=cz4 HN.out.box
 have al:=Hu.lt
 have dl:=HN.out.box.lt
 clear Hu
 rw [Vb.out] at a1
 obtain ⟨gc,cc,ec,Vr,Hn,Hv,Hi,curc,Ke⟩:=HN.out.custAt hc
 obtain ⟨rfl,rfl⟩:B3=some ⟨gc,0,none⟩/\e3=cc:=by cases ec;exact ⟨rfl,rfl⟩
 obtain ⟨cu,Hw⟩:=mK (x.clients[c])
 rw [Hw] at Hv
 have Vc:(c:Int) < (x.clients.length:Int):=by omega
 have Vd:=mA Hw
 have Kf:=mA Hv
 have Kg:=mA Hi
 have Ve:w.heap.size≠gc:=zAo HB.out Ke (by decide)
 clear ec Hw Hv Hi Ke
 go_wp2_with fail
 go_quiet (fail)
 obtain ⟨W1,Hx⟩:=mJ (Wd.drewN nq)
 have h1:Below Wd.heap.size Wd W1:=by rw [Hx];exact below_drewN (mG _ _) _
 change Exit.then _ _ _ _ (Wd.drewN nq)
 rw [<- Hx]
 clear Hx
 have d3':=cW h1 dl d3
 have a1':=cW h1 al a1
 have dl1:gx < W1.heap.size:=mF dl h1.size
 have al1:w.heap.size < W1.heap.size:=mF al h1.size
 go_wp2_with fail
 go_quiet (fail)
 obtain ⟨W2,Hy⟩:=mJ (W1.drewN nq)
 have h2:Below Wd.heap.size Wd W2:=by rw [Hy];exact below_drewN h1 _
 change Exit.then _ _ _ _ (W1.drewN nq)
 rw [<- Hy]
 clear h1 d3' a1' dl1 al1
 have Ho:=mA (HN.out.below h2)
 have Kh:=mA (Hl.out.trans (Fr.of h2 (mD hb Hl.out.size)))
 have b0:=cW h2 al a0
 have b2:=cW h2 al a2
 have b5:=cW h2 al a5
 have b6:=cW h2 al a6
 have b7:=cW h2 al a7
 have b8:=cW h2 al a8
 have Hb:=fun (j:Nat) (v:Value) (hj:(custV cu)[j]? = some v)=>(h2.cell (p:=⟨gc,c*8+j,none⟩) Hn).trans (Kf.out j v hj)
 have v0:W2.cell? ⟨gc,c*8,none⟩=some (.int .i64 cu.id):=Hb 0 _ rfl
 have v1:W2.cell? ⟨gc,c*8+1,none⟩=some (.int .i64 cu.next):=Hb 1 _ rfl
 have v2:W2.cell? ⟨gc,c*8+2,none⟩=some (.int .i64 cu.wait.client):=Hb 2 _ rfl
 have v3:W2.cell? ⟨gc,c*8+3,none⟩=some (.int .i64 cu.wait.num):=Hb 3 _ rfl
 have v4:W2.cell? ⟨gc,c*8+4,none⟩=some (.int .i64 cu.wait.op.kind):=Hb 4 _ rfl
 have v5:W2.cell? ⟨gc,c*8+5,none⟩=some (.int .i64 cu.wait.op.at_):=Hb 5 _ rfl
 have v6:W2.cell? ⟨gc,c*8+6,none⟩=some (.int .i64 cu.wait.op.snap):=Hb 6 _ rfl
 have v7:W2.cell? ⟨gc,c*8+7,none⟩=some (.string cu.wait.op.data):=Hb 7 _ rfl
 have bl:w.heap.size < W2.heap.size:=mF al h2.size
 have gl:gc < W2.heap.size:=mF Hn h2.size
 have Vf:=mA (zBb Kg.out h2 Hn)
 have Vg:=mA (Hm.out.trans (h2.mono Hm.out.size))
 clear Hy Hb h2 a0 a1 a2 a5 a6 a7 a8 d3 al dl HN HB Hl Hm Kg Kf Hn
 have Vs:(cu.wait.num == 0)=false:=by rw [beq_eq_false_iff_ne,<- Vd.out];exact HW.out
 rw [Kw.out] at b2
 obtain ⟨gr,cr,lu0,Vt,wv0,gv0,nv0,er',Vh,Ki,Hp,Hd,-,curr,Vi⟩:=Ho.out.repAt Ht
 obtain ⟨rfl,rfl⟩:B0=some ⟨gr,0,none⟩/\e0=cr:=by cases er';exact ⟨rfl,rfl⟩
 obtain ⟨rk,Hz⟩:=mK (x.replicas[r])
 rw [Hz] at Hd Hp
 obtain ⟨F0,p0,q0,F1,q1,F2,q2,F3,q3,F4,q4,rfl,rfl,rfl,rfl,rfl⟩:=Hp.forms
 have Kj:=mA Hp
 have Kk:=mA Hz
 have d0:=cz1 Ho.out.box
 have dl:=Ho.out.box.lt
 have t0:W2.cell? ⟨gr,r*10,none⟩=some (.int .i64 rk.me):=Hd 0 _ rfl
 have t1:W2.cell? ⟨gr,r*10+1,none⟩=some (.int .i64 rk.kept.view):=Hd 1 _ rfl
 have t2:W2.cell? ⟨gr,r*10+2,none⟩=some (.int .i64 rk.kept.normal):=Hd 2 _ rfl
 have t3:W2.cell? ⟨gr,r*10+3,none⟩=some (.bool rk.kept.calm):=Hd 3 _ rfl
 have t4:W2.cell? ⟨gr,r*10+4,none⟩=some (.slice F0 p0 q0):=Hd 4 _ rfl
 have t5:W2.cell? ⟨gr,r*10+5,none⟩=some (.int .i64 rk.kept.commit):=Hd 5 _ rfl
 have t6:W2.cell? ⟨gr,r*10+6,none⟩=some (.slice F1 rk.have_.length q1):=Hd 6 _ rfl
 have t7:W2.cell? ⟨gr,r*10+7,none⟩=some (.slice F2 rk.wants.length q2):=Hd 7 _ rfl
 have t8:W2.cell? ⟨gr,r*10+8,none⟩=some (.slice F3 rk.gives.length q3):=Hd 8 _ rfl
 have t9:W2.cell? ⟨gr,r*10+9,none⟩=some (.slice F4 rk.given.length q4):=Hd 9 _ rfl
 have grl:gr < W2.heap.size:=Ki
 clear er' Hd Hp Hz Vi Vh Ki
 go_wp2_with fail
 clear b0 b5 b6 b7 b8 v0 v1 v2 v3 v4 v5 v6 v7
 obtain ⟨S,He⟩:∃ S:World->Prop,S=fun w'=>Below W2.heap.size W2 w':=⟨_,rfl⟩
 have Hf:S W2.drew:=by rw [He];exact (mG _ _).drew
 refine zOj S [10,11] (by kernel_rfl) (fun Hc=>?_)
 change wpAnyF _ _ _ _ _ _ _ _ _ W2.drew
 refine zBa (i:=0) 12 (v:=?_) rfl (by kernel_rfl) (by kernel_rfl) (by kernel_rfl) (by kernel_rfl) (fun _ _ _ h=>h) (Or.inl ⟨by rfl,?_⟩) Hc Hf (fun Hc=>?_)
 rotate_left
 ·intro wv Ha
  rw [He] at Ha
  have q0:=cW Ha dl d0
  have q1:=cW Ha bl b2
  have s0:=cW Ha grl t0
  have s1:=cW Ha grl t1
  have s2:=cW Ha grl t2
  have s3:=cW Ha grl t3
  have s4:=cW Ha grl t4
  have s5:=cW Ha grl t5
  have s6:=cW Ha grl t6
  have s7:=cW Ha grl t7
  have s8:=cW Ha grl t8
  have s9:=cW Ha grl t9
  go_simp
  (try with_reducible rfl)
 (try simp only [Act.put,zp1,zp2,zp3])
 refine zBa (i:=1) 12 (v:=?_) rfl (by kernel_rfl) (by kernel_rfl) (by kernel_rfl) (by kernel_rfl) (fun _ _ _ h=>h) (Or.inl ⟨by rfl,?_⟩) Hc Hf (fun Hc=>?_)
 rotate_left
 ·intro wv Ha
  rw [He] at Ha
  have q0:=cW Ha dl d0
  have q1:=cW Ha bl b2
  have s0:=cW Ha grl t0
  have s1:=cW Ha grl t1
  have s2:=cW Ha grl t2
  have s3:=cW Ha grl t3
  have s4:=cW Ha grl t4
  have s5:=cW Ha grl t5
  have s6:=cW Ha grl t6
  have s7:=cW Ha grl t7
  have s8:=cW Ha grl t8
  have s9:=cW Ha grl t9
  go_simp
  (try with_reducible rfl)
 (try simp only [Act.put,zp1,zp2,zp3])
 refine zBa (i:=2) 12 (v:=?_) rfl (by kernel_rfl) (by kernel_rfl) (by kernel_rfl) (by kernel_rfl) (fun _ _ _ h=>h) (Or.inl ⟨by rfl,?_⟩) Hc Hf (fun Hc=>?_)
 rotate_left
 ·intro wv Ha
  rw [He] at Ha
  have q0:=cW Ha dl d0
  have q1:=cW Ha bl b2
  have s0:=cW Ha grl t0
  have s1:=cW Ha grl t1
  have s2:=cW Ha grl t2
  have s3:=cW Ha grl t3
  have s4:=cW Ha grl t4
  have s5:=cW Ha grl t5
  have s6:=cW Ha grl t6
  have s7:=cW Ha grl t7
  have s8:=cW Ha grl t8
  have s9:=cW Ha grl t9
  go_simp
  (try with_reducible rfl)
 (try simp only [Act.put,zp1,zp2,zp3])
 refine zBa (i:=3) 12 (v:=?_) rfl (by kernel_rfl) (by kernel_rfl) (by kernel_rfl) (by kernel_rfl) (fun _ _ _ h=>h) (Or.inl ⟨by rfl,?_⟩) Hc Hf (fun Hc=>?_)
 rotate_left
 ·intro wv Ha
  rw [He] at Ha
  have q0:=cW Ha dl d0
  have q1:=cW Ha bl b2
  have s0:=cW Ha grl t0
  have s1:=cW Ha grl t1
  have s2:=cW Ha grl t2
  have s3:=cW Ha grl t3
  have s4:=cW Ha grl t4
  have s5:=cW Ha grl t5
  have s6:=cW Ha grl t6
  have s7:=cW Ha grl t7
  have s8:=cW Ha grl t8
  have s9:=cW Ha grl t9
  go_simp
  (try with_reducible rfl)
 (try simp only [Act.put,zp1,zp2,zp3])
 refine zBa (i:=4) 12 (v:=?_) rfl (by kernel_rfl) (by kernel_rfl) (by kernel_rfl) (by kernel_rfl) (fun _ _ _ h=>h) (Or.inl ⟨by rfl,?_⟩) Hc Hf (fun Hc=>?_)
 rotate_left
 ·intro wv Ha
  rw [He] at Ha
  have q0:=cW Ha dl d0
  have q1:=cW Ha bl b2
  have s0:=cW Ha grl t0
  have s1:=cW Ha grl t1
  have s2:=cW Ha grl t2
  have s3:=cW Ha grl t3
  have s4:=cW Ha grl t4
  have s5:=cW Ha grl t5
  have s6:=cW Ha grl t6
  have s7:=cW Ha grl t7
  have s8:=cW Ha grl t8
  have s9:=cW Ha grl t9
  go_simp
  (try with_reducible rfl)
 (try simp only [Act.put,zp1,zp2,zp3])
 refine zBa (i:=5) 12 (v:=?_) rfl (by kernel_rfl) (by kernel_rfl) (by kernel_rfl) (by kernel_rfl) (fun _ _ _ h=>h) (Or.inl ⟨by rfl,?_⟩) Hc Hf (fun Hc=>?_)
 rotate_left
 ·intro wv Ha
  rw [He] at Ha
  have q0:=cW Ha dl d0
  have q1:=cW Ha bl b2
  have s0:=cW Ha grl t0
  have s1:=cW Ha grl t1
  have s2:=cW Ha grl t2
  have s3:=cW Ha grl t3
  have s4:=cW Ha grl t4
  have s5:=cW Ha grl t5
  have s6:=cW Ha grl t6
  have s7:=cW Ha grl t7
  have s8:=cW Ha grl t8
  have s9:=cW Ha grl t9
  go_simp
  (try with_reducible rfl)
 (try simp only [Act.put,zp1,zp2,zp3])
 refine zBa (i:=6) 12 (v:=?_) rfl (by kernel_rfl) (by kernel_rfl) (by kernel_rfl) (by kernel_rfl) (fun _ _ _ h=>h) (Or.inl ⟨by rfl,?_⟩) Hc Hf (fun Hc=>?_)
 rotate_left
 ·intro wv Ha
  rw [He] at Ha
  have q0:=cW Ha dl d0
  have q1:=cW Ha bl b2
  have s0:=cW Ha grl t0
  have s1:=cW Ha grl t1
  have s2:=cW Ha grl t2
  have s3:=cW Ha grl t3
  have s4:=cW Ha grl t4
  have s5:=cW Ha grl t5
  have s6:=cW Ha grl t6
  have s7:=cW Ha grl t7
  have s8:=cW Ha grl t8
  have s9:=cW Ha grl t9
  go_simp
  (try with_reducible rfl)
 (try simp only [Act.put,zp1,zp2,zp3])
 refine zBa (i:=7) 12 (v:=?_) rfl (by kernel_rfl) (by kernel_rfl) (by kernel_rfl) (by kernel_rfl) (fun _ _ _ h=>h) (Or.inl ⟨by rfl,?_⟩) Hc Hf (fun Hc=>?_)
 rotate_left
 ·intro wv Ha
  rw [He] at Ha
  have q0:=cW Ha dl d0
  have q1:=cW Ha bl b2
  have s0:=cW Ha grl t0
  have s1:=cW Ha grl t1
  have s2:=cW Ha grl t2
  have s3:=cW Ha grl t3
  have s4:=cW Ha grl t4
  have s5:=cW Ha grl t5
  have s6:=cW Ha grl t6
  have s7:=cW Ha grl t7
  have s8:=cW Ha grl t8
  have s9:=cW Ha grl t9
  go_simp
  (try with_reducible rfl)
 (try simp only [Act.put,zp1,zp2,zp3])
 refine zBa (i:=8) 12 (v:=?_) rfl (by kernel_rfl) (by kernel_rfl) (by kernel_rfl) (by kernel_rfl) (fun _ _ _ h=>h) (Or.inl ⟨by rfl,?_⟩) Hc Hf (fun Hc=>?_)
 rotate_left
 ·intro wv Ha
  rw [He] at Ha
  have q0:=cW Ha dl d0
  have q1:=cW Ha bl b2
  have s0:=cW Ha grl t0
  have s1:=cW Ha grl t1
  have s2:=cW Ha grl t2
  have s3:=cW Ha grl t3
  have s4:=cW Ha grl t4
  have s5:=cW Ha grl t5
  have s6:=cW Ha grl t6
  have s7:=cW Ha grl t7
  have s8:=cW Ha grl t8
  have s9:=cW Ha grl t9
  go_simp
  (try with_reducible rfl)
 (try simp only [Act.put,zp1,zp2,zp3])
 refine zBa (i:=9) 12 (v:=?_) rfl (by kernel_rfl) (by kernel_rfl) (by kernel_rfl) (by kernel_rfl) (fun _ _ _ h=>h) (Or.inl ⟨by rfl,?_⟩) Hc Hf (fun Hc=>?_)
 rotate_left
 ·intro wv Ha
  rw [He] at Ha
  have q0:=cW Ha dl d0
  have q1:=cW Ha bl b2
  have s0:=cW Ha grl t0
  have s1:=cW Ha grl t1
  have s2:=cW Ha grl t2
  have s3:=cW Ha grl t3
  have s4:=cW Ha grl t4
  have s5:=cW Ha grl t5
  have s6:=cW Ha grl t6
  have s7:=cW Ha grl t7
  have s8:=cW Ha grl t8
  have s9:=cW Ha grl t9
  go_simp
  (try with_reducible rfl)
 (try simp only [Act.put,zp1,zp2,zp3])
 refine zKr (rs:=[10]) (by kernel_rfl) (by simp) ?_
 intro ii Hj
 rw [List.mem_singleton] at Hj
 subst Hj
 refine wpOp_step (o:=_) rfl (fun KB Kl=>?_)
 go_simp
 have hR:=Hs.out Ht
 rw [Kk.out] at hR
 obtain ⟨Vj,Vk,Vc,Hg⟩:=hR
 obtain ⟨q,hq⟩:=Int.eq_ofNat_of_zero_le Vk
 have Vl:p0=rk.kept.log.length:=by obtain ⟨A',c',e,_⟩:=Kj.out.log.ex;cases e;rfl
 subst Vl
 have Km:Below W2.heap.size W2 W2.drew:=(mG _ _).drew
 have Kn:=HY.out Ht
 rw [Kk.out] at Kn
 refine (zOu c rk F0 q0 _ _ _ _ W2.drew base gx gc e3 x _ _ _ _ (Ho.out.below Km) (mD hb Kh.out.size) hc (Kj.out.below Km) Vj q hq (by omega) c Kt.out (by omega) (by rw [hq,Int.toNat_natCast] at Hg;exact Hg) Kr y f Kn).mono ?_;rintro en w9 ⟨rfl,Ko,Kp⟩
 have H9:=mA (mB Ko (Kh.out.trans (((Fr.refl base W2).drew).trans Kp)))
 refine Kl _ _ ⟨.inl (by simp),?_⟩
 have Hc:=Hc.set (i:=10) (by rw [<- List.contains_iff_mem];kernel_rfl)
 clear Ko Kp Kl
 (try simp only [Act.put,zp1,zp2,zp3])
 refine zKr (rs:=[11]) (by kernel_rfl) (by simp) ?_
 intro ii Hj
 rw [List.mem_singleton] at Hj
 subst Hj
 refine wpOp_step (o:=_) rfl (fun KD Kq=>?_)
 go_simp
 refine Kq _ _ ⟨.inl (by simp),zOi (by kernel_rfl) ?_ _⟩
 (try simp only [Act.put,zp1,zp2,zp3])
 clear Kq Hf He Hc d0 t0 t1 t2 t3 t4 t5 t6 t7 t8 t9 b2
 go_wp2
 go_ret
 exact ⟨rfl,H9.out.1,H9.out.2⟩
theorem zZy (a:Scu.Act) (w:World) (base gx:Nat) (x:Scu.Net) (rv sv fv cv tv:Value) (hN:NetW w base gx x rv sv fv cv tv) (hb:base<=w.heap.size) (h3:x.replicas.length=3) (Hp:x.slots.length=3) (Kq:x.flying.length<=80) (c:Nat) (Hg:a.c=c) (hc:c < x.clients.length) (r:Nat) (Hh:a.r=r) (Kr:r < 3) (Hq:a.kind≠1) (hw:x.clients[c].wait.num≠0) (Hr:a.kind≠3) (se:Scu.Str) (fe:Int) (Hs:Scu.encode x.clients[c].wait=(se,fe)) (Ht:fe≠0) (y:Scu.Net) (f:Int) (hy:y=x/\f=fe):Calls Tryd.prog 44 #[.pointer (some ⟨gx,0,none⟩),.agg #[.int .i64 a.kind,.int .i64 a.c,.int .i64 a.r,.int .i64 a.k,.int .i64 a.n,.int .i64 a.op.kind,.int .i64 a.op.at_,.int .i64 a.op.snap,.string a.op.data]] w fun e w'=>e=.returned (.int .i64 f)/\NetE w' base gx y/\Fr base w w':=by
 have Hz:(a.kind == 3)=false:=by rw [beq_eq_false_iff_ne];exact Hr
 have Ka:(fe != 0)=true:=by simpa using Ht
 have Kb:=mA Hs
 clear Hr Ht Hs
 have Kc:decide (a.r < 0)=false:=by rw [decide_eq_false_iff_not];omega
 have Kd:decide (3<=a.r)=false:=by rw [decide_eq_false_iff_not];omega
 rw [Hh] at Kc Kd
 have Ke:=mA Hh
 have Kf:(r:Int) < 3:=by omega
 have Ks:r < x.replicas.length:=by omega
 have Kt:(r:Int) < (x.replicas.length:Int):=by omega
 clear Hh
 have Kg:(a.kind == 1)=false:=by rw [beq_eq_false_iff_ne];exact Hq
 have HW:=mA hw
 clear Hq hw
 have Kh:decide (a.c < 0)=false:=by rw [decide_eq_false_iff_not];omega
 have Ki:decide ((x.clients.length:Int)<=a.c)=false:=by rw [decide_eq_false_iff_not];omega
 rw [Hg] at Kh Ki
 have Kj:=mA Hg
 clear Hg
 obtain ⟨B0,e0,B1,e1,B2,e2,B3,e3,B4,e4,rfl,rfl,rfl,rfl,rfl⟩:=hN.forms
 have Hc:=zAa w (.cells (aN a) 40)
 have HN:=mA (hN.below Hc)
 have HB:=mA (Blk.new w 40 (aN a))
 have Hd:=mA (Fr.of Hc hb)
 have He:=mA Hc
 have H3:=mA h3
 have Ku:=mA Hp
 have HY:=mA hy
 clear hN h3 Hp Hc hy
 go_enter Tryd.func44,Tryd.ntmps44
 go_upto_region 1 with fail
 obtain ⟨Wd,Hu⟩:=mJ (w.alloc (.cells (aN a) 40))
 rw [<- Hu] at HN HB Hd He ⊢
 clear Hu
 have Hi:=HB.out
 obtain ⟨a0,a1,a2,-,-,a5,a6,a7,a8⟩:=cz9 Hi
 obtain ⟨-,-,-,d3⟩:=cz4 HN.out.box
 have al:=Hi.lt
 have dl:=HN.out.box.lt
 clear Hi
 rw [Kj.out] at a1
 obtain ⟨gc,cc,ec,Kv,Hf,Hj,Hb,curc,Hv⟩:=HN.out.custAt hc
 obtain ⟨rfl,rfl⟩:B3=some ⟨gc,0,none⟩/\e3=cc:=by cases ec;exact ⟨rfl,rfl⟩
 obtain ⟨cu,Hk⟩:=mK (x.clients[c])
 rw [Hk] at Hj
 have Kw:(c:Int) < (x.clients.length:Int):=by omega
 have Hl:=mA Hk
 have Hw:=mA Hj
 have Hx:=mA Hb
 have Kk:w.heap.size≠gc:=zAo HB.out Hv (by decide)
 clear ec Hk Hj Hb Hv
 go_wp2_with fail
 go_quiet (fail)
 obtain ⟨W1,Hm⟩:=mJ (Wd.drewN nq)
 have h1:Below Wd.heap.size Wd W1:=by rw [Hm];exact below_drewN (mG _ _) _
 change Exit.then _ _ _ _ (Wd.drewN nq)
 rw [<- Hm]
 clear Hm
 have d3':=cW h1 dl d3
 have a1':=cW h1 al a1
 have dl1:gx < W1.heap.size:=mF dl h1.size
 have al1:w.heap.size < W1.heap.size:=mF al h1.size
 go_wp2_with fail
 go_quiet (fail)
 obtain ⟨W2,Hn⟩:=mJ (W1.drewN nq)
 have h2:Below Wd.heap.size Wd W2:=by rw [Hn];exact below_drewN h1 _
 change Exit.then _ _ _ _ (W1.drewN nq)
 rw [<- Hn]
 clear h1 d3' a1' dl1 al1
 have Kl:=mA (HN.out.below h2)
 have Hy:=mA (Hd.out.trans (Fr.of h2 (mD hb Hd.out.size)))
 have b0:=cW h2 al a0
 have b2:=cW h2 al a2
 have b5:=cW h2 al a5
 have b6:=cW h2 al a6
 have b7:=cW h2 al a7
 have b8:=cW h2 al a8
 have Ha:=fun (j:Nat) (v:Value) (hj:(custV cu)[j]? = some v)=>(h2.cell (p:=⟨gc,c*8+j,none⟩) Hf).trans (Hw.out j v hj)
 have v0:W2.cell? ⟨gc,c*8,none⟩=some (.int .i64 cu.id):=Ha 0 _ rfl
 have v1:W2.cell? ⟨gc,c*8+1,none⟩=some (.int .i64 cu.next):=Ha 1 _ rfl
 have v2:W2.cell? ⟨gc,c*8+2,none⟩=some (.int .i64 cu.wait.client):=Ha 2 _ rfl
 have v3:W2.cell? ⟨gc,c*8+3,none⟩=some (.int .i64 cu.wait.num):=Ha 3 _ rfl
 have v4:W2.cell? ⟨gc,c*8+4,none⟩=some (.int .i64 cu.wait.op.kind):=Ha 4 _ rfl
 have v5:W2.cell? ⟨gc,c*8+5,none⟩=some (.int .i64 cu.wait.op.at_):=Ha 5 _ rfl
 have v6:W2.cell? ⟨gc,c*8+6,none⟩=some (.int .i64 cu.wait.op.snap):=Ha 6 _ rfl
 have v7:W2.cell? ⟨gc,c*8+7,none⟩=some (.string cu.wait.op.data):=Ha 7 _ rfl
 have bl:w.heap.size < W2.heap.size:=mF al h2.size
 have gl:gc < W2.heap.size:=mF Hf h2.size
 have Km:=mA (zBb Hx.out h2 Hf)
 have Kn:=mA (He.out.trans (h2.mono He.out.size))
 clear Hn Ha h2 a0 a1 a2 a5 a6 a7 a8 d3 al dl HN HB Hd He Hx Hw Hf
 have Kx:(cu.wait.num == 0)=false:=by rw [beq_eq_false_iff_ne,<- Hl.out];exact HW.out
 rw [Ke.out] at b2
 have Ho:=zPk cu.wait W2
 rw [<- Hl.out,Kb.out,Hl.out] at Ho
 go_wp2_with fail
 refine Ho.mono ?_;rintro en w3 ⟨rfl,h3⟩
 have Ko:=mA (Kl.out.e.below h3)
 have Kp:=mA (Hy.out.trans (Fr.of h3 (mD hb Hy.out.size)))
 clear h3 Ho
 go_wp2
 go_ret
 exact ⟨zAb (zAd HY.out.2.symm),by rw [HY.out.1];exact Ko.out,Kp.out⟩
theorem zZz (a:Scu.Act) (w:World) (base gx:Nat) (x:Scu.Net) (rv sv fv cv tv:Value) (hN:NetW w base gx x rv sv fv cv tv) (hb:base<=w.heap.size) (h3:x.replicas.length=3) (Kn:x.slots.length=3) (Vi:x.flying.length<=80) (c:Nat) (Kc:a.c=c) (hc:c < x.clients.length) (r:Nat) (Kd:a.r=r) (Gc:r < 3) (Ko:a.kind≠1) (hw:x.clients[c].wait.num≠0) (Kp:a.kind≠3) (se:Scu.Str) (Kq:Scu.encode x.clients[c].wait=(se,0)) (Kr:se.size<=R47) (rr:Scu.Replica) (ms:List Scu.Message) (fr:Int) (hd:∀ h:r < x.replicas.length,Scu.take x.replicas[r] se=(rr,ms,fr)) (y:Scu.Net) (f:Int) (hy:(if fr≠0 then (x,fr) else Scu.settle x r rr ms (-1))=(y,f)):Calls Tryd.prog 44 #[.pointer (some ⟨gx,0,none⟩),.agg #[.int .i64 a.kind,.int .i64 a.c,.int .i64 a.r,.int .i64 a.k,.int .i64 a.n,.int .i64 a.op.kind,.int .i64 a.op.at_,.int .i64 a.op.snap,.string a.op.data]] w fun e w'=>e=.returned (.int .i64 f)/\NetE w' base gx y/\Fr base w w':=by
 have Vj:(a.kind == 3)=false:=by rw [beq_eq_false_iff_ne];exact Kp
 have Vk:=mA Kq
 have Ks:=mA Kr
 have Vl:=mA hd
 clear Kp Kq Kr hd
 have Vm:decide (a.r < 0)=false:=by rw [decide_eq_false_iff_not];omega
 have Vn:decide (3<=a.r)=false:=by rw [decide_eq_false_iff_not];omega
 rw [Kd] at Vm Vn
 have Vo:=mA Kd
 have Vp:(r:Int) < 3:=by omega
 have Kt:r < x.replicas.length:=by omega
 have Gd:(r:Int) < (x.replicas.length:Int):=by omega
 clear Kd
 have Vq:(a.kind == 1)=false:=by rw [beq_eq_false_iff_ne];exact Ko
 have HW:=mA hw
 clear Ko hw
 have Vr:decide (a.c < 0)=false:=by rw [decide_eq_false_iff_not];omega
 have Vs:decide ((x.clients.length:Int)<=a.c)=false:=by rw [decide_eq_false_iff_not];omega
 rw [Kc] at Vr Vs
 have Vt:=mA Kc
 clear Kc
 obtain ⟨B0,e0,B1,e1,B2,e2,B3,e3,B4,e4,rfl,rfl,rfl,rfl,rfl⟩:=hN.forms
 have Hw:=zAa w (.cells (aN a) 40)
 have HN:=mA (hN.below Hw)
 have HB:=mA (Blk.new w 40 (aN a))
 have Hg:=mA (Fr.of Hw hb)
 have Hx:=mA Hw
 have H3:=mA h3
 have Vu:=mA Kn
 have HY:=mA hy
 clear hN h3 Kn Hw hy
 go_enter Tryd.func44,Tryd.ntmps44
 go_upto_region 1 with fail
 obtain ⟨Wd,Ku⟩:=mJ (w.alloc (.cells (aN a) 40))
 rw [<- Ku] at HN HB Hg Hx ⊢
 clear Ku
 have Hi:=HB.out
 obtain ⟨a0,a1,a2,-,-,a5,a6,a7,a8⟩:=cz9 Hi
 obtain ⟨-,-,-,d3⟩:=cz4 HN.out.box
 have al:=Hi.lt
 have dl:=HN.out.box.lt
 clear Hi
 rw [Vt.out] at a1
 obtain ⟨gc,cc,ec,Ge,Hy,Ke,Hl,curc,Kv⟩:=HN.out.custAt hc
 obtain ⟨rfl,rfl⟩:B3=some ⟨gc,0,none⟩/\e3=cc:=by cases ec;exact ⟨rfl,rfl⟩
 obtain ⟨cu,Kf⟩:=mK (x.clients[c])
 rw [Kf] at Ke
 have Gf:(c:Int) < (x.clients.length:Int):=by omega
 have Kg:=mA Kf
 have Kw:=mA Ke
 have Kx:=mA Hl
 have Vv:w.heap.size≠gc:=zAo HB.out Kv (by decide)
 clear ec Kf Ke Hl Kv
 go_wp2_with fail
 go_quiet (fail)
 obtain ⟨W1,Kh⟩:=mJ (Wd.drewN nq)
 have h1:Below Wd.heap.size Wd W1:=by rw [Kh];exact below_drewN (mG _ _) _
 change Exit.then _ _ _ _ (Wd.drewN nq)
 rw [<- Kh]
 clear Kh
 have d3':=cW h1 dl d3
 have a1':=cW h1 al a1
 have dl1:gx < W1.heap.size:=mF dl h1.size
 have al1:w.heap.size < W1.heap.size:=mF al h1.size
 go_wp2_with fail
 go_quiet (fail)
 obtain ⟨W2,Ki⟩:=mJ (W1.drewN nq)
 have h2:Below Wd.heap.size Wd W2:=by rw [Ki];exact below_drewN h1 _
 change Exit.then _ _ _ _ (W1.drewN nq)
 rw [<- Ki]
 clear h1 d3' a1' dl1 al1
 have Ky:=mA (HN.out.below h2)
 have Kj:=mA (Hg.out.trans (Fr.of h2 (mD hb Hg.out.size)))
 have b0:=cW h2 al a0
 have b2:=cW h2 al a2
 have b5:=cW h2 al a5
 have b6:=cW h2 al a6
 have b7:=cW h2 al a7
 have b8:=cW h2 al a8
 have Ha:=fun (j:Nat) (v:Value) (hj:(custV cu)[j]? = some v)=>(h2.cell (p:=⟨gc,c*8+j,none⟩) Hy).trans (Kw.out j v hj)
 have v0:W2.cell? ⟨gc,c*8,none⟩=some (.int .i64 cu.id):=Ha 0 _ rfl
 have v1:W2.cell? ⟨gc,c*8+1,none⟩=some (.int .i64 cu.next):=Ha 1 _ rfl
 have v2:W2.cell? ⟨gc,c*8+2,none⟩=some (.int .i64 cu.wait.client):=Ha 2 _ rfl
 have v3:W2.cell? ⟨gc,c*8+3,none⟩=some (.int .i64 cu.wait.num):=Ha 3 _ rfl
 have v4:W2.cell? ⟨gc,c*8+4,none⟩=some (.int .i64 cu.wait.op.kind):=Ha 4 _ rfl
 have v5:W2.cell? ⟨gc,c*8+5,none⟩=some (.int .i64 cu.wait.op.at_):=Ha 5 _ rfl
 have v6:W2.cell? ⟨gc,c*8+6,none⟩=some (.int .i64 cu.wait.op.snap):=Ha 6 _ rfl
 have v7:W2.cell? ⟨gc,c*8+7,none⟩=some (.string cu.wait.op.data):=Ha 7 _ rfl
 have bl:w.heap.size < W2.heap.size:=mF al h2.size
 have gl:gc < W2.heap.size:=mF Hy h2.size
 have Vw:=mA (zBb Kx.out h2 Hy)
 have Vx:=mA (Hx.out.trans (h2.mono Hx.out.size))
 clear Ki Ha h2 a0 a1 a2 a5 a6 a7 a8 d3 al dl HN HB Hg Hx Kx Kw Hy
 have Gg:(cu.wait.num == 0)=false:=by rw [beq_eq_false_iff_ne,<- Kg.out];exact HW.out
 rw [Vo.out] at b2
 have Kk:=zPk cu.wait W2
 rw [<- Kg.out,Vk.out,Kg.out] at Kk
 go_wp2_with fail
 refine Kk.mono ?_;rintro en Wd ⟨rfl,h3⟩
 have HN:=mA (Ky.out.below h3)
 have Hg:=mA (Kj.out.trans (Fr.of h3 (mD hb Kj.out.size)))
 have c2:=cW h3 bl b2
 have bl3:w.heap.size < Wd.heap.size:=mF bl h3.size
 clear h3 Kk b0 b2 b5 b6 b7 b8 v0 v1 v2 v3 v4 v5 v6 v7 bl Ky Kj
 obtain ⟨gr,cr,lu0,Gi,wv0,gv0,nv0,er',Vy,Kz,Hz,He,-,curr,Vz⟩:=HN.out.repAt Kt
 obtain ⟨rfl,rfl⟩:B0=some ⟨gr,0,none⟩/\e0=cr:=by cases er';exact ⟨rfl,rfl⟩
 obtain ⟨rk,Kl⟩:=mK (x.replicas[r])
 rw [Kl] at He Hz
 obtain ⟨F0,p0,q0,F1,q1,F2,q2,F3,q3,F4,q4,rfl,rfl,rfl,rfl,rfl⟩:=Hz.forms
 have Va:=mA Hz
 have Ga:=mA Kl
 have d0:=cz1 HN.out.box
 have dl:=HN.out.box.lt
 have t0:Wd.cell? ⟨gr,r*10,none⟩=some (.int .i64 rk.me):=He 0 _ rfl
 have t1:Wd.cell? ⟨gr,r*10+1,none⟩=some (.int .i64 rk.kept.view):=He 1 _ rfl
 have t2:Wd.cell? ⟨gr,r*10+2,none⟩=some (.int .i64 rk.kept.normal):=He 2 _ rfl
 have t3:Wd.cell? ⟨gr,r*10+3,none⟩=some (.bool rk.kept.calm):=He 3 _ rfl
 have t4:Wd.cell? ⟨gr,r*10+4,none⟩=some (.slice F0 p0 q0):=He 4 _ rfl
 have t5:Wd.cell? ⟨gr,r*10+5,none⟩=some (.int .i64 rk.kept.commit):=He 5 _ rfl
 have t6:Wd.cell? ⟨gr,r*10+6,none⟩=some (.slice F1 rk.have_.length q1):=He 6 _ rfl
 have t7:Wd.cell? ⟨gr,r*10+7,none⟩=some (.slice F2 rk.wants.length q2):=He 7 _ rfl
 have t8:Wd.cell? ⟨gr,r*10+8,none⟩=some (.slice F3 rk.gives.length q3):=He 8 _ rfl
 have t9:Wd.cell? ⟨gr,r*10+9,none⟩=some (.slice F4 rk.given.length q4):=He 9 _ rfl
 have grl:gr < Wd.heap.size:=Kz
 clear er' He Hz Kl Vz Vy Kz
 have Km:=Vl.out Kt
 rw [Ga.out] at Km
 have HD:=mA Km
 clear Km
 go_wp2_with fail
 obtain ⟨S,Hd⟩:∃ S:World->Prop,S=fun w'=>Below Wd.heap.size Wd w':=⟨_,rfl⟩
 have Hc:S Wd.drew:=by rw [Hd];exact (mG _ _).drew
 refine wp_region_held (S:=S) (by kernel_rfl) ?_
 change wpAnyH _ _ _ _ _ _ _ _ Wd.drew
 have Hm:=fun (wv:World) (Hb:Below Wd.heap.size Wd wv)=>mB (cW Hb dl d0) (mB (cW Hb bl3 c2) (mB (cW Hb grl t0) (mB (cW Hb grl t1) (mB (cW Hb grl t2) (mB (cW Hb grl t3) (mB (cW Hb grl t4) (mB (cW Hb grl t5) (mB (cW Hb grl t6) (mB (cW Hb grl t7) (mB (cW Hb grl t8) (cW Hb grl t9)))))))))))
 refine tkHs [0,1,2,3,4,5,6,7,8] (by kernel_rfl) (fun _ _ _ _ _ h=>h) Hc ?_
 iterate 9
  refine tkc (v:=?_) rfl (Or.inl ⟨by rfl,?_⟩) ?_
  rotate_left
  ·(intro wv Hb;rw [Hd] at Hb;obtain ⟨q0,q1,s0,s1,s2,s3,s4,s5,s6,s7,s8,s9⟩:=Hm wv Hb;go_simp;(try with_reducible rfl))
  (try simp only [Act.put,zp1,zp2,zp3])
 refine tkz ?_
 refine wpAnyH_all (rs:=[9,14]) (by kernel_rfl) (by simp) ?_
 intro ii Vb
 simp only [List.mem_cons,List.not_mem_nil,or_false] at Vb
 rcases Vb with rfl | rfl
 case' inl =>
  refine wpOp_step (o:=_) rfl (fun KS Hn=>?_)
  go_simp
  have dd:Below Wd.heap.size Wd Wd.drew:=(mG _ _).drew
  refine (zXp _ _ _ _ _ rk se Ks.out _ 0 (Va.out.below dd) rr ms fr HD.out).mono ?_;rintro en x1 ⟨⟨E0,m0,z0,E1,z1,E2,z2,E3,z3,E4,z4,Ao,co,rfl,Ho,Hp,Hq⟩,k1⟩
  have nn1:=dd.trans (k1.mono dd.size)
  have M1:=mA nn1
  have Hf:=mA (mB Ho (mB Hp (fun g hg=>mD dd.size (Hq g hg))))
  clear dd
  have Hc:S x1:=by rw [Hd];exact nn1
  refine Hn _ _ ⟨Hc,?_⟩
  clear Hn nn1 k1 Ho Hp Hq
  (try simp only [Act.put,zp1,zp2,zp3])
  refine tkHs [10,11,12,13] (by kernel_rfl) (fun _ _ _ _ _ h=>h) Hc ?_
  iterate 4
   refine tkc (v:=?_) rfl (Or.inl ⟨by rfl,?_⟩) ?_
   rotate_left
   ·(intro wv Hb;rw [Hd] at Hb;obtain ⟨q0,q1,s0,s1,s2,s3,s4,s5,s6,s7,s8,s9⟩:=Hm wv Hb;go_simp;(try with_reducible rfl))
   (try simp only [Act.put,zp1,zp2,zp3])
  refine tkz ?_
  refine alH 14 (by kernel_rfl) (wpOp_step (o:=_) rfl fun KA Hr=>?_)
  go_simp
  have Hc:S (x1.alloc (.cells zR 49)):=by rw [Hd];exact M1.out.alloc M1.out.size _
  refine Hr _ _ ⟨Hc,?_⟩
  (try simp only [Act.put,zp1,zp2,zp3])
  refine alH 15 (by kernel_rfl) (wpOp_step (o:=_) rfl fun KB Hs=>?_)
  rw [if_pos (by rfl)]
  refine wp_store_mid 49 (.tmp 9) (.tmp 117) rfl x1.heap.size 0 (rN rr E0 m0 z0 E1 z1 E2 z2 E3 z3 E4 z4) rfl rfl (zAs (Blk.new x1 49 zR)) (by kernel_rfl) (all_oneCell_toArray (zCo Hf.out.1)) ?_
  have Hj:S ((x1.alloc (.cells zR 49)).setCells x1.heap.size 0 (rL rr E0 m0 z0 E1 z1 E2 z2 E3 z3 E4 z4)):=by rw [Hd] at Hc ⊢;exact zAh M1.out.size _ 0 _ _ Hc
  refine Hs _ _ ⟨Hj,?_⟩
  have Hc:=Hj
  (try simp only [Act.put,zp1,zp2,zp3])
  change wpAnyH _ _ _ _ _ _ _ _ ((x1.alloc (.cells zR 49)).setCells x1.heap.size 0 (rL rr E0 m0 z0 E1 z1 E2 z2 E3 z3 E4 z4))
  refine tkHs [16,17] (by kernel_rfl) (fun _ _ _ _ _ h=>h) Hc ?_
  iterate 2
   refine tkc (v:=?_) rfl (Or.inl ⟨by rfl,?_⟩) ?_
   rotate_left
   ·(intro wv Hb;rw [Hd] at Hb;obtain ⟨q0,q1,s0,s1,s2,s3,s4,s5,s6,s7,s8,s9⟩:=Hm wv Hb;go_simp;(try with_reducible rfl))
   (try simp only [Act.put,zp1,zp2,zp3])
  refine tkz ?_
  refine wpAnyH_done (by kernel_rfl) ?_ _
  have HQ:=mA (zCe Hf.out.1 Hf.out.2.1 (M1.out.alloc M1.out.size _) (Blk.new x1 49 zR) M1.out.size (zAa x1 _))
  have Ht:=mA Hf.out.2.2
  obtain ⟨gb,Vc⟩:=mK (x1.heap.size)
  obtain ⟨W3,Hu⟩:=mJ ((x1.alloc (.cells zR 49)).setCells x1.heap.size 0 (rL rr E0 m0 z0 E1 z1 E2 z2 E3 z3 E4 z4))
  change Exit.then _ _ _ _ ((x1.alloc (.cells zR 49)).setCells x1.heap.size 0 (rL rr E0 m0 z0 E1 z1 E2 z2 E3 z3 E4 z4))
  rw [<- Hu] at HQ ⊢
  rw [Vc] at HQ ⊢
  clear Hu Vc Hc Hj Hd Hr Hs Hf
 case' inr =>
  refine wpOp_step (o:=_) rfl (fun KA Hr=>?_)
  go_simp
  have dd:Below Wd.heap.size Wd (Wd.drew.alloc (.cells zR 49)):=(mG _ _).drew.alloc (mC _) _
  have Hc:S (Wd.drew.alloc (.cells zR 49)):=by rw [Hd];exact dd
  refine Hr _ _ ⟨Hc,?_⟩
  (try simp only [Act.put,zp1,zp2,zp3])
  refine alH 9 (by kernel_rfl) (wpOp_step (o:=_) rfl fun KS Hn=>?_)
  go_simp
  refine (zXp _ _ _ _ _ rk se Ks.out _ 0 (Va.out.below dd) rr ms fr HD.out).mono ?_;rintro en x1 ⟨⟨E0,m0,z0,E1,z1,E2,z2,E3,z3,E4,z4,Ao,co,rfl,Ho,Hp,Hq⟩,k1⟩
  have nn1:=dd.trans (k1.mono dd.size)
  have M1:=mA nn1
  have Hf:=mA (mB Ho (mB Hp (fun g hg=>mD dd.size (Hq g hg))))
  have HZ:=mA ((Blk.new' (w:=Wd.drew) (g:=Wd.heap.size) (t:=49) (cs:=zR) rfl).same k1)
  clear dd
  have Hc:S x1:=by rw [Hd];exact nn1
  refine Hn _ _ ⟨Hc,?_⟩
  clear Hn nn1 k1 Ho Hp Hq
  (try simp only [Act.put,zp1,zp2,zp3])
  refine tkHs [10,11,12,13] (by kernel_rfl) (fun _ _ _ _ _ h=>h) Hc ?_
  iterate 4
   refine tkc (v:=?_) rfl (Or.inl ⟨by rfl,?_⟩) ?_
   rotate_left
   ·(intro wv Hb;rw [Hd] at Hb;obtain ⟨q0,q1,s0,s1,s2,s3,s4,s5,s6,s7,s8,s9⟩:=Hm wv Hb;go_simp;(try with_reducible rfl))
   (try simp only [Act.put,zp1,zp2,zp3])
  refine tkz ?_
  refine alH 15 (by kernel_rfl) (wpOp_step (o:=_) rfl fun KB Hs=>?_)
  rw [if_pos (by rfl)]
  refine wp_store_mid 49 (.tmp 9) (.tmp 117) rfl Wd.heap.size 0 (rN rr E0 m0 z0 E1 z1 E2 z2 E3 z3 E4 z4) rfl rfl (zAs HZ.out) (by kernel_rfl) (all_oneCell_toArray (zCo Hf.out.1)) ?_
  have Hj:S (x1.setCells Wd.heap.size 0 (rL rr E0 m0 z0 E1 z1 E2 z2 E3 z3 E4 z4)):=by rw [Hd] at Hc ⊢;exact zAh (mC _) _ 0 _ _ Hc
  refine Hs _ _ ⟨Hj,?_⟩
  have Hc:=Hj
  (try simp only [Act.put,zp1,zp2,zp3])
  change wpAnyH _ _ _ _ _ _ _ _ (x1.setCells Wd.heap.size 0 (rL rr E0 m0 z0 E1 z1 E2 z2 E3 z3 E4 z4))
  refine tkHs [16,17] (by kernel_rfl) (fun _ _ _ _ _ h=>h) Hc ?_
  iterate 2
   refine tkc (v:=?_) rfl (Or.inl ⟨by rfl,?_⟩) ?_
   rotate_left
   ·(intro wv Hb;rw [Hd] at Hb;obtain ⟨q0,q1,s0,s1,s2,s3,s4,s5,s6,s7,s8,s9⟩:=Hm wv Hb;go_simp;(try with_reducible rfl))
   (try simp only [Act.put,zp1,zp2,zp3])
  refine tkz ?_
  refine wpAnyH_done (by kernel_rfl) ?_ _
  have HQ:=mA (zCe Hf.out.1 Hf.out.2.1 M1.out HZ.out (mC _) (mG _ _))
  have Ht:=mA Hf.out.2.2
  obtain ⟨W3,Hu⟩:=mJ (x1.setCells Wd.heap.size 0 (rL rr E0 m0 z0 E1 z1 E2 z2 E3 z3 E4 z4))
  change Exit.then _ _ _ _ (x1.setCells Wd.heap.size 0 (rL rr E0 m0 z0 E1 z1 E2 z2 E3 z3 E4 z4))
  rw [<- Hu] at HQ ⊢
  clear Hu Hc Hj Hd Hr Hs Hf HZ
 all_goals
  have c2':W3.cell? ⟨w.heap.size,2,none⟩=some (.int .i64 (r:Int)):=cW HQ.out.1 bl3 c2
  clear d0 c2 t0 t1 t2 t3 t4 t5 t6 t7 t8 t9
  have Vd:=HN.out.below HQ.out.1
  have Ve:base<=W3.heap.size:=mD (mD hb Hg.out.size) HQ.out.1.size
  have Vf:=Hg.out.trans (Fr.of HQ.out.1 (mD hb Hg.out.size))
  have Hv:∀ g,(Value.slice Ao ms.length co).ownBlock=some g->(Value.slice B2 x.flying.length e2).ownBlock≠some g:=fun g hg e=>by
   have h1:=Ht.out g hg
   obtain ⟨_,Gb⟩:=HN.out.fly
   have h2:=(Gb.lt g e).2
   omega
  have Hk:=mA (mB Vd (mB Ve (mB Vf Hv)))
  have Hi:=HQ.out.2.1
  obtain ⟨b0,b1,b2,b3,b4,b5,b6,b7,b8,b9⟩:=cz10 Hi
  have bl:=Hi.lt
  clear Hi Vd Ve Vf Hv
  by_cases Ka:fr=0
  ·subst Ka
   have Kb:=mA (show Scu.settle (x) r rr ms (-1)=(y,f) by have h:=HY.out;rw [if_neg (by simp)] at h;exact h)
   go_wp2_with fail
   have Hh:=zDr r rr _ _ _ _ _ Ao co ms (-1) W3 base gx (x) _ _ _ _ _ Hk.out.1 Hk.out.2.1 (by rw [H3.out];omega) (by rw [Vu.out];omega) H3.out HQ.out.2.2.1 HQ.out.2.2.2 Hk.out.2.2.2 (Vi) y f Kb.out
   skip
   refine Hh.mono ?_;clear Hh;rintro en w9 ⟨rfl,Vg,Vh⟩
   have H9:=mA (mB Vg (Hk.out.2.2.1.trans Vh))
   clear Vg Vh
   go_wp2
   go_ret
   exact ⟨rfl,H9.out.1,H9.out.2⟩
  ·have Gj:(fr != 0)=true:=by simpa using Ka
   have Kb:=mA (show y=x/\f=fr by have h:=HY.out;rw [if_pos Ka] at h;exact ⟨(Prod.mk.inj h).1.symm,(Prod.mk.inj h).2.symm⟩)
   clear Ka
   go_wp2
   go_ret
   exact ⟨zAb (zAd Kb.out.2.symm),by rw [Kb.out.1];exact Hk.out.1.e,Hk.out.2.2.1⟩
theorem zOv (a:Scu.Act) (w:World) (base gx:Nat) (x:Scu.Net) (rv sv fv cv tv:Value) (hN:NetW w base gx x rv sv fv cv tv) (hb:base<=w.heap.size) (h3:x.replicas.length=3) (Hb:x.slots.length=3) (Hc:x.flying.length<=80) (Hj:x.clients.length<=4) (Hk:x.told.length<=1000) (Ha:∀ (c:Nat) (h:c < x.clients.length),x.clients[c].id=(c:Int)+1/\1<=x.clients[c].next/\x.clients[c].next<=1000000)
 (Hg:∀ (r:Nat) (h:r < x.replicas.length),0<=x.replicas[r].kept.view/\0<=x.replicas[r].kept.commit/\x.replicas[r].kept.commit<=x.replicas[r].kept.log.length/\∀ st,Scu.play (x.replicas[r].kept.log.take x.replicas[r].kept.commit.toNat)=(st,0)->st.lasts.length=4)
 (y:Scu.Net) (f:Int) (hy:Scu.actBy x a=(y,f)):Calls Tryd.prog 44 #[.pointer (some ⟨gx,0,none⟩),.agg #[.int .i64 a.kind,.int .i64 a.c,.int .i64 a.r,.int .i64 a.k,.int .i64 a.n,.int .i64 a.op.kind,.int .i64 a.op.at_,.int .i64 a.op.snap,.string a.op.data]] w fun e w'=>e=.returned (.int .i64 f)/\NetE w' base gx y/\Fr base w w':=by
 unfold Scu.actBy at hy
 by_cases hk:a.c < 0\/(x.clients.length:Int)<=a.c
 ·rw [if_pos hk] at hy
  exact zZr a w base gx x rv sv fv cv tv hN hb h3 Hb Hc hk y f ⟨(Prod.mk.inj hy).1.symm,(Prod.mk.inj hy).2.symm⟩
 rw [if_neg hk] at hy
 obtain ⟨c,Hd⟩:=Int.eq_ofNat_of_zero_le (show 0<=a.c by omega)
 have hc:c < x.clients.length:=by omega
 rw [Hd,Int.toNat_natCast,show x.clients.getD c Scu.cust0=x.clients[c] by rw [mI,mH hc];rfl] at hy
 dsimp only at hy
 by_cases hk1:a.kind=1
 ·rw [if_pos hk1] at hy
  by_cases hw:0 < x.clients[c].wait.num
  ·rw [if_pos hw] at hy
   exact zZs a w base gx x rv sv fv cv tv hN hb h3 Hb Hc c Hd hc hk1 hw y f ⟨(Prod.mk.inj hy).1.symm,(Prod.mk.inj hy).2.symm⟩
  rw [if_neg hw] at hy
  by_cases ho:Scu.opFault a.op≠0
  ·rw [if_pos ho] at hy
   exact zZt a w base gx x rv sv fv cv tv hN hb h3 Hb Hc c Hd hc hk1 hw _ rfl ho y f ⟨(Prod.mk.inj hy).1.symm,(Prod.mk.inj hy).2.symm⟩
  rw [if_neg ho] at hy
  exact zZu a w base gx x rv sv fv cv tv hN hb h3 Hb Hc c Hd hc hk1 hw (Decidable.not_not.1 ho) ⟨(Ha c hc).2.1,(Ha c hc).2.2⟩ y f ⟨(Prod.mk.inj hy).1.symm,(Prod.mk.inj hy).2.symm⟩
 rw [if_neg hk1] at hy
 by_cases hw:x.clients[c].wait.num=0
 ·rw [if_pos hw] at hy
  exact zZv a w base gx x rv sv fv cv tv hN hb h3 Hb Hc c Hd hc hk1 hw y f ⟨(Prod.mk.inj hy).1.symm,(Prod.mk.inj hy).2.symm⟩
 rw [if_neg hw] at hy
 by_cases hr:a.r < 0\/3<=a.r
 ·rw [if_pos hr] at hy
  exact zZw a w base gx x rv sv fv cv tv hN hb h3 Hb Hc c Hd hc hk1 hw hr y f ⟨(Prod.mk.inj hy).1.symm,(Prod.mk.inj hy).2.symm⟩
 rw [if_neg hr] at hy
 obtain ⟨r,He⟩:=Int.eq_ofNat_of_zero_le (show 0<=a.r by omega)
 have Hh:r < 3:=by omega
 have Hl:r < x.replicas.length:=by omega
 rw [He,Int.toNat_natCast,show x.replicas.getD r Scu.replica0=x.replicas[r] by rw [mI,mH Hl];rfl] at hy
 by_cases hk3:a.kind=3
 ·rw [if_pos hk3] at hy
  exact zZx a w base gx x rv sv fv cv tv hN hb h3 Hb Hc c Hd hc r He Hh hk1 hw hk3 (Ha c hc).1 Hj Hk (Hg r) y f (fun _=>hy)
 rw [if_neg hk3] at hy
 obtain ⟨se,fe,Hf⟩:∃ se fe,Scu.encode x.clients[c].wait=(se,fe):=⟨_,_,rfl⟩
 rw [Hf] at hy
 dsimp only at hy
 by_cases hfe:fe≠0
 ·rw [if_pos hfe] at hy
  exact zZy a w base gx x rv sv fv cv tv hN hb h3 Hb Hc c Hd hc r He Hh hk1 hw hk3 se fe Hf hfe y f ⟨(Prod.mk.inj hy).1.symm,(Prod.mk.inj hy).2.symm⟩
 rw [if_neg hfe] at hy
 have Hi:=Decidable.not_not.1 hfe
 subst Hi
 have Hm:se.size<=R47:=by
  have h:=Hf
  unfold Scu.encode at h
  split at h
  ·rename_i hx;have:=(Prod.mk.inj h).2;exact absurd this hx
  rename_i hx
  have e:=(Prod.mk.inj h).1
  have:=Scu.reqBytes_size x.clients[c].wait
  have:=(Scu.opFault_ok (Scu.reqFault_ok (Decidable.not_not.1 hx)).2.2.2.2).2.2.2.2.2.2.1
  rw [<- e]
  unfold R47
  omega
 exact zZz a w base gx x rv sv fv cv tv hN hb h3 Hb Hc c Hd hc r He Hh hk1 hw hk3 se Hf Hm _ _ _ (fun _=>rfl) y f hy
end Go.Proofs.YtnpphdaakookcaaDoor
