/- Part 31: words and walks under the laws of the whole. -/
import Derived.Test.YtnpphdaakookcaaDoorQ30
set_option linter.unusedVariables false
set_option linter.unusedSimpArgs false
set_option maxHeartbeats 4000000
set_option maxRecDepth 100000
namespace Go.Proofs.YtnpphdaakookcaaDoor
open Go.RowKit
theorem zZr (a:Scu.Act) (w:World) (base gx:Nat) (x:Scu.Net) (rv sv fv cv tv:Value) (hN:NetW w base gx x rv sv fv cv tv) (hb:base<=w.heap.size) (h3:x.replicas.length=3) (He:x.slots.length=3) (Hi:x.flying.length<=80) (hk:a.c < 0\/(x.clients.length:Int)<=a.c) (y:Scu.Net) (f:Int) (hy:y=x/\f=6):Calls Tryd.prog 44 #[.pointer (some ⟨gx,0,none⟩),.agg #[.int .i64 a.kind,.int .i64 a.c,.int .i64 a.r,.int .i64 a.k,.int .i64 a.n,.int .i64 a.op.kind,.int .i64 a.op.at_,.int .i64 a.op.snap,.string a.op.data]] w fun e w'=>e=.returned (.int .i64 f)/\NetE w' base gx y/\Fr base w w':=by
 by_cases h0:a.c < 0
 ·have Hg:decide (a.c < 0)=true:=by simpa using h0
  clear hk h0
  obtain ⟨B0,e0,B1,e1,B2,e2,B3,e3,B4,e4,rfl,rfl,rfl,rfl,rfl⟩:=hN.forms
  have Ha:=zAa w (.cells (aN a) 40)
  have HN:=mA (hN.below Ha)
  have HB:=mA (Blk.new w 40 (aN a))
  have Hb:=mA (Fr.of Ha hb)
  have Hf:=mA Ha
  have H3:=mA h3
  have Hh:=mA He
  have HY:=mA hy
  clear hN h3 He Ha hy
  go_enter Tryd.func44,Tryd.ntmps44
  go_upto_region 1 with fail
  obtain ⟨Wd,Hd⟩:=mJ (w.alloc (.cells (aN a) 40))
  rw [<- Hd] at HN HB Hb Hf ⊢
  clear Hd
  have Hc:=HB.out
  obtain ⟨a0,a1,a2,-,-,a5,a6,a7,a8⟩:=cz9 Hc
  obtain ⟨-,-,-,d3⟩:=cz4 HN.out.box
  have al:=Hc.lt
  have dl:=HN.out.box.lt
  clear Hc
  go_wp2_with fail
  go_quiet (fail)
  go_wp2
  go_ret
  exact ⟨zAb (zAd HY.out.2.symm),by rw [HY.out.1];exact HN.out.e.below (below_drewN (mG _ _) _),Hb.out.trans (Fr.of (below_drewN (mG _ _) _) (mD hb Hb.out.size))⟩
 have Hg:decide (a.c < 0)=false:=by simpa using h0
 have Hj:decide ((x.clients.length:Int)<=a.c)=true:=by rw [decide_eq_true_eq];omega
 clear h0 hk
 obtain ⟨B0,e0,B1,e1,B2,e2,B3,e3,B4,e4,rfl,rfl,rfl,rfl,rfl⟩:=hN.forms
 have Ha:=zAa w (.cells (aN a) 40)
 have HN:=mA (hN.below Ha)
 have HB:=mA (Blk.new w 40 (aN a))
 have Hb:=mA (Fr.of Ha hb)
 have Hf:=mA Ha
 have H3:=mA h3
 have Hh:=mA He
 have HY:=mA hy
 clear hN h3 He Ha hy
 go_enter Tryd.func44,Tryd.ntmps44
 go_upto_region 1 with fail
 obtain ⟨Wd,Hd⟩:=mJ (w.alloc (.cells (aN a) 40))
 rw [<- Hd] at HN HB Hb Hf ⊢
 clear Hd
 have Hc:=HB.out
 obtain ⟨a0,a1,a2,-,-,a5,a6,a7,a8⟩:=cz9 Hc
 obtain ⟨-,-,-,d3⟩:=cz4 HN.out.box
 have al:=Hc.lt
 have dl:=HN.out.box.lt
 clear Hc
 go_wp2_with fail
 go_quiet (fail)
 go_wp2
 go_ret
 exact ⟨zAb (zAd HY.out.2.symm),by rw [HY.out.1];exact HN.out.e.below (below_drewN (mG _ _) _),Hb.out.trans (Fr.of (below_drewN (mG _ _) _) (mD hb Hb.out.size))⟩
theorem zZs (a:Scu.Act) (w:World) (base gx:Nat) (x:Scu.Net) (rv sv fv cv tv:Value) (hN:NetW w base gx x rv sv fv cv tv) (hb:base<=w.heap.size) (h3:x.replicas.length=3) (Hm:x.slots.length=3) (Kc:x.flying.length<=80) (c:Nat) (Hg:a.c=c) (hc:c < x.clients.length) (Hn:a.kind=1) (hw:0 < x.clients[c].wait.num) (y:Scu.Net) (f:Int) (hy:y=x/\f=12):Calls Tryd.prog 44 #[.pointer (some ⟨gx,0,none⟩),.agg #[.int .i64 a.kind,.int .i64 a.c,.int .i64 a.r,.int .i64 a.k,.int .i64 a.n,.int .i64 a.op.kind,.int .i64 a.op.at_,.int .i64 a.op.snap,.string a.op.data]] w fun e w'=>e=.returned (.int .i64 f)/\NetE w' base gx y/\Fr base w w':=by
 have Hs:(a.kind == 1)=true:=by rw [beq_iff_eq];exact Hn
 have HW:=mA hw
 clear Hn hw
 have Ht:decide (a.c < 0)=false:=by rw [decide_eq_false_iff_not];omega
 have Hu:decide ((x.clients.length:Int)<=a.c)=false:=by rw [decide_eq_false_iff_not];omega
 rw [Hg] at Ht Hu
 have Hv:=mA Hg
 clear Hg
 obtain ⟨B0,e0,B1,e1,B2,e2,B3,e3,B4,e4,rfl,rfl,rfl,rfl,rfl⟩:=hN.forms
 have Hc:=zAa w (.cells (aN a) 40)
 have HN:=mA (hN.below Hc)
 have HB:=mA (Blk.new w 40 (aN a))
 have Hd:=mA (Fr.of Hc hb)
 have He:=mA Hc
 have H3:=mA h3
 have Kd:=mA Hm
 have HY:=mA hy
 clear hN h3 Hm Hc hy
 go_enter Tryd.func44,Tryd.ntmps44
 go_upto_region 1 with fail
 obtain ⟨Wd,Ho⟩:=mJ (w.alloc (.cells (aN a) 40))
 rw [<- Ho] at HN HB Hd He ⊢
 clear Ho
 have Hh:=HB.out
 obtain ⟨a0,a1,a2,-,-,a5,a6,a7,a8⟩:=cz9 Hh
 obtain ⟨-,-,-,d3⟩:=cz4 HN.out.box
 have al:=Hh.lt
 have dl:=HN.out.box.lt
 clear Hh
 rw [Hv.out] at a1
 obtain ⟨gc,cc,ec,Ke,Hf,Hi,Hb,curc,Hp⟩:=HN.out.custAt hc
 obtain ⟨rfl,rfl⟩:B3=some ⟨gc,0,none⟩/\e3=cc:=by cases ec;exact ⟨rfl,rfl⟩
 obtain ⟨cu,Hj⟩:=mK (x.clients[c])
 rw [Hj] at Hi
 have Kf:(c:Int) < (x.clients.length:Int):=by omega
 have Hw:=mA Hj
 have Hq:=mA Hi
 have Hr:=mA Hb
 have Hx:w.heap.size≠gc:=zAo HB.out Hp (by decide)
 clear ec Hj Hi Hb Hp
 go_wp2_with fail
 go_quiet (fail)
 obtain ⟨W1,Hk⟩:=mJ (Wd.drewN nq)
 have h1:Below Wd.heap.size Wd W1:=by rw [Hk];exact below_drewN (mG _ _) _
 change Exit.then _ _ _ _ (Wd.drewN nq)
 rw [<- Hk]
 clear Hk
 have d3':=cW h1 dl d3
 have a1':=cW h1 al a1
 have dl1:gx < W1.heap.size:=mF dl h1.size
 have al1:w.heap.size < W1.heap.size:=mF al h1.size
 go_wp2_with fail
 go_quiet (fail)
 obtain ⟨W2,Hl⟩:=mJ (W1.drewN nq)
 have h2:Below Wd.heap.size Wd W2:=by rw [Hl];exact below_drewN h1 _
 change Exit.then _ _ _ _ (W1.drewN nq)
 rw [<- Hl]
 clear h1 d3' a1' dl1 al1
 have Hy:=mA (HN.out.below h2)
 have Hz:=mA (Hd.out.trans (Fr.of h2 (mD hb Hd.out.size)))
 have b0:=cW h2 al a0
 have b2:=cW h2 al a2
 have b5:=cW h2 al a5
 have b6:=cW h2 al a6
 have b7:=cW h2 al a7
 have b8:=cW h2 al a8
 have Ha:=fun (j:Nat) (v:Value) (hj:(custV cu)[j]? = some v)=>(h2.cell (p:=⟨gc,c*8+j,none⟩) Hf).trans (Hq.out j v hj)
 have v0:W2.cell? ⟨gc,c*8,none⟩=some (.int .i64 cu.id):=Ha 0 _ rfl
 have v1:W2.cell? ⟨gc,c*8+1,none⟩=some (.int .i64 cu.next):=Ha 1 _ rfl
 have v2:W2.cell? ⟨gc,c*8+2,none⟩=some (.int .i64 cu.wait.client):=Ha 2 _ rfl
 have v3:W2.cell? ⟨gc,c*8+3,none⟩=some (.int .i64 cu.wait.num):=Ha 3 _ rfl
 have v4:W2.cell? ⟨gc,c*8+4,none⟩=some (.int .i64 cu.wait.op.kind):=Ha 4 _ rfl
 have v5:W2.cell? ⟨gc,c*8+5,none⟩=some (.int .i64 cu.wait.op.at_):=Ha 5 _ rfl
 have v6:W2.cell? ⟨gc,c*8+6,none⟩=some (.int .i64 cu.wait.op.snap):=Ha 6 _ rfl
 have v7:W2.cell? ⟨gc,c*8+7,none⟩=some (.string cu.wait.op.data):=Ha 7 _ rfl
 have bl:w.heap.size < W2.heap.size:=mF al h2.size
 have gl:gc < W2.heap.size:=mF Hf h2.size
 have Ka:=mA (zBb Hr.out h2 Hf)
 have Kb:=mA (He.out.trans (h2.mono He.out.size))
 clear Hl Ha h2 a0 a1 a2 a5 a6 a7 a8 d3 al dl HN HB Hd He Hr Hq Hf
 have Kg:0 < cu.wait.num:=by rw [<- Hw.out];exact HW.out
 go_wp2
 go_ret
 exact ⟨zAb (zAd HY.out.2.symm),by rw [HY.out.1];exact Hy.out.e,Hz.out⟩
theorem zZt (a:Scu.Act) (w:World) (base gx:Nat) (x:Scu.Net) (rv sv fv cv tv:Value) (hN:NetW w base gx x rv sv fv cv tv) (hb:base<=w.heap.size) (h3:x.replicas.length=3) (Hm:x.slots.length=3) (Kg:x.flying.length<=80) (c:Nat) (Hg:a.c=c) (hc:c < x.clients.length) (Hn:a.kind=1) (hw:¬ 0 < x.clients[c].wait.num) (fo:Int) (ho:Scu.opFault a.op=fo) (Ho:fo≠0) (y:Scu.Net) (f:Int) (hy:y=x/\f=fo):Calls Tryd.prog 44 #[.pointer (some ⟨gx,0,none⟩),.agg #[.int .i64 a.kind,.int .i64 a.c,.int .i64 a.r,.int .i64 a.k,.int .i64 a.n,.int .i64 a.op.kind,.int .i64 a.op.at_,.int .i64 a.op.snap,.string a.op.data]] w fun e w'=>e=.returned (.int .i64 f)/\NetE w' base gx y/\Fr base w w':=by
 have Hu:(a.kind == 1)=true:=by rw [beq_iff_eq];exact Hn
 have HW:=mA hw
 have HO:=mA ho
 have Hv:(fo != 0)=true:=by simpa using Ho
 clear Hn hw ho Ho
 have Hw:decide (a.c < 0)=false:=by rw [decide_eq_false_iff_not];omega
 have Hx:decide ((x.clients.length:Int)<=a.c)=false:=by rw [decide_eq_false_iff_not];omega
 rw [Hg] at Hw Hx
 have Hy:=mA Hg
 clear Hg
 obtain ⟨B0,e0,B1,e1,B2,e2,B3,e3,B4,e4,rfl,rfl,rfl,rfl,rfl⟩:=hN.forms
 have Hc:=zAa w (.cells (aN a) 40)
 have HN:=mA (hN.below Hc)
 have HB:=mA (Blk.new w 40 (aN a))
 have Hd:=mA (Fr.of Hc hb)
 have He:=mA Hc
 have H3:=mA h3
 have Kh:=mA Hm
 have HY:=mA hy
 clear hN h3 Hm Hc hy
 go_enter Tryd.func44,Tryd.ntmps44
 go_upto_region 1 with fail
 obtain ⟨Wd,Hp⟩:=mJ (w.alloc (.cells (aN a) 40))
 rw [<- Hp] at HN HB Hd He ⊢
 clear Hp
 have Hh:=HB.out
 obtain ⟨a0,a1,a2,-,-,a5,a6,a7,a8⟩:=cz9 Hh
 obtain ⟨-,-,-,d3⟩:=cz4 HN.out.box
 have al:=Hh.lt
 have dl:=HN.out.box.lt
 clear Hh
 rw [Hy.out] at a1
 obtain ⟨gc,cc,ec,Ki,Hf,Hi,Hb,curc,Hq⟩:=HN.out.custAt hc
 obtain ⟨rfl,rfl⟩:B3=some ⟨gc,0,none⟩/\e3=cc:=by cases ec;exact ⟨rfl,rfl⟩
 obtain ⟨cu,Hj⟩:=mK (x.clients[c])
 rw [Hj] at Hi
 have Kj:(c:Int) < (x.clients.length:Int):=by omega
 have Hz:=mA Hj
 have Hr:=mA Hi
 have Hs:=mA Hb
 have Ka:w.heap.size≠gc:=zAo HB.out Hq (by decide)
 clear ec Hj Hi Hb Hq
 go_wp2_with fail
 go_quiet (fail)
 obtain ⟨W1,Hk⟩:=mJ (Wd.drewN nq)
 have h1:Below Wd.heap.size Wd W1:=by rw [Hk];exact below_drewN (mG _ _) _
 change Exit.then _ _ _ _ (Wd.drewN nq)
 rw [<- Hk]
 clear Hk
 have d3':=cW h1 dl d3
 have a1':=cW h1 al a1
 have dl1:gx < W1.heap.size:=mF dl h1.size
 have al1:w.heap.size < W1.heap.size:=mF al h1.size
 go_wp2_with fail
 go_quiet (fail)
 obtain ⟨W2,Hl⟩:=mJ (W1.drewN nq)
 have h2:Below Wd.heap.size Wd W2:=by rw [Hl];exact below_drewN h1 _
 change Exit.then _ _ _ _ (W1.drewN nq)
 rw [<- Hl]
 clear h1 d3' a1' dl1 al1
 have Kb:=mA (HN.out.below h2)
 have Ht:=mA (Hd.out.trans (Fr.of h2 (mD hb Hd.out.size)))
 have b0:=cW h2 al a0
 have b2:=cW h2 al a2
 have b5:=cW h2 al a5
 have b6:=cW h2 al a6
 have b7:=cW h2 al a7
 have b8:=cW h2 al a8
 have Ha:=fun (j:Nat) (v:Value) (hj:(custV cu)[j]? = some v)=>(h2.cell (p:=⟨gc,c*8+j,none⟩) Hf).trans (Hr.out j v hj)
 have v0:W2.cell? ⟨gc,c*8,none⟩=some (.int .i64 cu.id):=Ha 0 _ rfl
 have v1:W2.cell? ⟨gc,c*8+1,none⟩=some (.int .i64 cu.next):=Ha 1 _ rfl
 have v2:W2.cell? ⟨gc,c*8+2,none⟩=some (.int .i64 cu.wait.client):=Ha 2 _ rfl
 have v3:W2.cell? ⟨gc,c*8+3,none⟩=some (.int .i64 cu.wait.num):=Ha 3 _ rfl
 have v4:W2.cell? ⟨gc,c*8+4,none⟩=some (.int .i64 cu.wait.op.kind):=Ha 4 _ rfl
 have v5:W2.cell? ⟨gc,c*8+5,none⟩=some (.int .i64 cu.wait.op.at_):=Ha 5 _ rfl
 have v6:W2.cell? ⟨gc,c*8+6,none⟩=some (.int .i64 cu.wait.op.snap):=Ha 6 _ rfl
 have v7:W2.cell? ⟨gc,c*8+7,none⟩=some (.string cu.wait.op.data):=Ha 7 _ rfl
 have bl:w.heap.size < W2.heap.size:=mF al h2.size
 have gl:gc < W2.heap.size:=mF Hf h2.size
 have Kc:=mA (zBb Hs.out h2 Hf)
 have Kd:=mA (He.out.trans (h2.mono He.out.size))
 clear Hl Ha h2 a0 a1 a2 a5 a6 a7 a8 d3 al dl HN HB Hd He Hs Hr Hf
 have Kk:¬ 0 < cu.wait.num:=by rw [<- Hz.out];exact Int.not_lt.2 HW.out
 go_wp2_with fail
 refine (zFh a.op W2).mono ?_;rintro en w3 ⟨rfl,h3⟩
 rw [HO.out]
 have Ke:=mA (Kb.out.e.below h3)
 have Kf:=mA (Ht.out.trans (Fr.of h3 (mD hb Ht.out.size)))
 clear h3
 go_wp2
 go_ret
 exact ⟨zAb (zAd HY.out.2.symm),by rw [HY.out.1];exact Ke.out,Kf.out⟩
theorem zZu (a:Scu.Act) (w:World) (base gx:Nat) (x:Scu.Net) (rv sv fv cv tv:Value) (hN:NetW w base gx x rv sv fv cv tv) (hb:base<=w.heap.size) (h3:x.replicas.length=3) (Hw:x.slots.length=3) (Kr:x.flying.length<=80) (c:Nat) (Hn:a.c=c) (hc:c < x.clients.length) (Hx:a.kind=1) (hw:¬ 0 < x.clients[c].wait.num) (ho:Scu.opFault a.op=0) (Hy:1<=x.clients[c].next/\x.clients[c].next<=1000000) (y:Scu.Net) (f:Int)
 (hy:y = { x with clients:=x.clients.set c ⟨x.clients[c].id,x.clients[c].next+1,⟨x.clients[c].id,x.clients[c].next,a.op⟩⟩ }/\f=0):Calls Tryd.prog 44 #[.pointer (some ⟨gx,0,none⟩),.agg #[.int .i64 a.kind,.int .i64 a.c,.int .i64 a.r,.int .i64 a.k,.int .i64 a.n,.int .i64 a.op.kind,.int .i64 a.op.at_,.int .i64 a.op.snap,.string a.op.data]] w fun e w'=>e=.returned (.int .i64 f)/\NetE w' base gx y/\Fr base w w':=by
 have Kh:(a.kind == 1)=true:=by rw [beq_iff_eq];exact Hx
 have HW:=mA hw
 have HO:=mA ho
 have Ki:=mA Hy
 clear Hx hw ho Hy
 have Kj:decide (a.c < 0)=false:=by rw [decide_eq_false_iff_not];omega
 have Kk:decide ((x.clients.length:Int)<=a.c)=false:=by rw [decide_eq_false_iff_not];omega
 rw [Hn] at Kj Kk
 have Kl:=mA Hn
 clear Hn
 obtain ⟨B0,e0,B1,e1,B2,e2,B3,e3,B4,e4,rfl,rfl,rfl,rfl,rfl⟩:=hN.forms
 have Hh:=zAa w (.cells (aN a) 40)
 have HN:=mA (hN.below Hh)
 have HB:=mA (Blk.new w 40 (aN a))
 have Hi:=mA (Fr.of Hh hb)
 have Hj:=mA Hh
 have H3:=mA h3
 have Ks:=mA Hw
 have HY:=mA hy
 clear hN h3 Hw Hh hy
 go_enter Tryd.func44,Tryd.ntmps44
 go_upto_region 1 with fail
 obtain ⟨Wd,Hz⟩:=mJ (w.alloc (.cells (aN a) 40))
 rw [<- Hz] at HN HB Hi Hj ⊢
 clear Hz
 have Ho:=HB.out
 obtain ⟨a0,a1,a2,-,-,a5,a6,a7,a8⟩:=cz9 Ho
 obtain ⟨-,-,-,d3⟩:=cz4 HN.out.box
 have al:=Ho.lt
 have dl:=HN.out.box.lt
 clear Ho
 rw [Kl.out] at a1
 obtain ⟨gc,cc,ec,Kt,Hk,Hp,He,curc,Ka⟩:=HN.out.custAt hc
 obtain ⟨rfl,rfl⟩:B3=some ⟨gc,0,none⟩/\e3=cc:=by cases ec;exact ⟨rfl,rfl⟩
 obtain ⟨cu,Hq⟩:=mK (x.clients[c])
 rw [Hq] at Hp
 have Ku:(c:Int) < (x.clients.length:Int):=by omega
 have Hl:=mA Hq
 have Kb:=mA Hp
 have Kc:=mA He
 have Km:w.heap.size≠gc:=zAo HB.out Ka (by decide)
 clear ec Hq Hp He Ka
 go_wp2_with fail
 go_quiet (fail)
 obtain ⟨W1,Hr⟩:=mJ (Wd.drewN nq)
 have h1:Below Wd.heap.size Wd W1:=by rw [Hr];exact below_drewN (mG _ _) _
 change Exit.then _ _ _ _ (Wd.drewN nq)
 rw [<- Hr]
 clear Hr
 have d3':=cW h1 dl d3
 have a1':=cW h1 al a1
 have dl1:gx < W1.heap.size:=mF dl h1.size
 have al1:w.heap.size < W1.heap.size:=mF al h1.size
 go_wp2_with fail
 go_quiet (fail)
 obtain ⟨W2,Hs⟩:=mJ (W1.drewN nq)
 have h2:Below Wd.heap.size Wd W2:=by rw [Hs];exact below_drewN h1 _
 change Exit.then _ _ _ _ (W1.drewN nq)
 rw [<- Hs]
 clear h1 d3' a1' dl1 al1
 have Kn:=mA (HN.out.below h2)
 have Kd:=mA (Hi.out.trans (Fr.of h2 (mD hb Hi.out.size)))
 have b0:=cW h2 al a0
 have b2:=cW h2 al a2
 have b5:=cW h2 al a5
 have b6:=cW h2 al a6
 have b7:=cW h2 al a7
 have b8:=cW h2 al a8
 have Ha:=fun (j:Nat) (v:Value) (hj:(custV cu)[j]? = some v)=>(h2.cell (p:=⟨gc,c*8+j,none⟩) Hk).trans (Kb.out j v hj)
 have v0:W2.cell? ⟨gc,c*8,none⟩=some (.int .i64 cu.id):=Ha 0 _ rfl
 have v1:W2.cell? ⟨gc,c*8+1,none⟩=some (.int .i64 cu.next):=Ha 1 _ rfl
 have v2:W2.cell? ⟨gc,c*8+2,none⟩=some (.int .i64 cu.wait.client):=Ha 2 _ rfl
 have v3:W2.cell? ⟨gc,c*8+3,none⟩=some (.int .i64 cu.wait.num):=Ha 3 _ rfl
 have v4:W2.cell? ⟨gc,c*8+4,none⟩=some (.int .i64 cu.wait.op.kind):=Ha 4 _ rfl
 have v5:W2.cell? ⟨gc,c*8+5,none⟩=some (.int .i64 cu.wait.op.at_):=Ha 5 _ rfl
 have v6:W2.cell? ⟨gc,c*8+6,none⟩=some (.int .i64 cu.wait.op.snap):=Ha 6 _ rfl
 have v7:W2.cell? ⟨gc,c*8+7,none⟩=some (.string cu.wait.op.data):=Ha 7 _ rfl
 have bl:w.heap.size < W2.heap.size:=mF al h2.size
 have gl:gc < W2.heap.size:=mF Hk h2.size
 have Ht:=mA (zBb Kc.out h2 Hk)
 have Ko:=mA (Hj.out.trans (h2.mono Hj.out.size))
 clear Hs Ha h2 a0 a1 a2 a5 a6 a7 a8 d3 al dl HN HB Hi Hj Kc Kb Hk
 have Kv:¬ 0 < cu.wait.num:=by rw [<- Hl.out];exact Int.not_lt.2 HW.out
 go_wp2_with fail
 refine (zFh a.op W2).mono ?_;rintro en w3 ⟨rfl,h3⟩
 rw [HO.out]
 have Kp:=mA (Kn.out.below h3)
 have Kq:=mA (Kd.out.trans (Fr.of h3 (mD hb Kd.out.size)))
 have c5:=cW h3 bl b5
 have c6:=cW h3 bl b6
 have c7:=cW h3 bl b7
 have c8:=cW h3 bl b8
 have u0:=cW h3 gl v0
 have u1:=cW h3 gl v1
 have gl3:gc < w3.heap.size:=mF gl h3.size
 have Hd:World.there w3.drew gc (c*8) 8:=zBb Ht.out h3.drew gl
 clear h3 b0 b2 b5 b6 b7 b8 v0 v1 v2 v3 v4 v5 v6 v7
 go_wp2_with fail
 obtain ⟨S,Hu⟩:∃ S:World->Prop,S=fun w'=>w'.cell? ⟨gc,c*8,none⟩=some (.int .i64 cu.id)/\w'.cell? ⟨gc,c*8+1,none⟩=some (.int .i64 cu.next)/\w'.cell? ⟨w.heap.size,5,none⟩=some (.int .i64 a.op.kind)/\w'.cell? ⟨w.heap.size,6,none⟩=some (.int .i64 a.op.at_)/\w'.cell? ⟨w.heap.size,7,none⟩=some (.int .i64 a.op.snap)/\w'.cell? ⟨w.heap.size,8,none⟩=some (.string a.op.data):=⟨_,rfl⟩
 have Ke:S w3.drew:=by rw [Hu];exact ⟨u0,u1,c5,c6,c7,c8⟩
 refine zAq S 14 (by kernel_rfl) (fun Hv=>?_)
 change wpAnyE _ _ _ _ _ _ _ _ _ w3.drew
 refine tkEs 12 [0,1,2,3,4,5,6,7,8,9,10,11,12,13] (by kernel_rfl) (fun _ _ _ _ _ h=>h) Hv Ke ?_
 iterate 14
  refine tkc (v:=?_) rfl (Or.inl ⟨by rfl,?_⟩) ?_
  rotate_left
  ·(intro wv Kf;rw [Hu] at Kf;obtain ⟨s0,s1,s2,s3,s4,s5⟩:=Kf;go_simp;(try with_reducible rfl))
  (try simp only [Act.put,zp1,zp2,zp3])
 refine tkz (fun Hv=>?_)
 refine alE 14 (by kernel_rfl) (wpOp_step (o:=_) rfl fun KB Kg=>?_)
 rw [if_pos (by rfl)]
 have Hc:=(Kp.out.below ((mG w3.heap.size w3).drew)).putCust (k:=c) hc 2 [.int .i64 cu.id,.int .i64 cu.next,.int .i64 a.op.kind,.int .i64 a.op.at_,.int .i64 a.op.snap,.string a.op.data] (show 2+6<=8 by decide) (u:=⟨x.clients[c].id,x.clients[c].next,⟨x.clients[c].id,x.clients[c].next,a.op⟩⟩) (by rw [Hl.out];rfl)
 refine wp_store_mid 62 (.tmp 59) (.tmp 57) rfl gc (c*8+2) #[.int .i64 cu.id,.int .i64 cu.next,.int .i64 a.op.kind,.int .i64 a.op.at_,.int .i64 a.op.snap,.string a.op.data] rfl rfl (zTm Hd 2 6 (by decide)) (by kernel_rfl) (all_oneCell_toArray (cs:=[.int .i64 cu.id,.int .i64 cu.next,.int .i64 a.op.kind,.int .i64 a.op.at_,.int .i64 a.op.snap,.string a.op.data]) (by intro v hv;simp only [List.mem_cons,List.not_mem_nil,or_false] at hv;rcases hv with rfl | rfl | rfl | rfl | rfl | rfl <;> rfl)) ?_
 refine Kg _ _ ⟨.inl rfl,zAp (by kernel_rfl) ?_ _⟩
 (try simp only [Act.put,zp1,zp2,zp3])
 obtain ⟨W4,Hm⟩:=mJ (w3.drew.setCells gc (c*8+2) [.int .i64 cu.id,.int .i64 cu.next,.int .i64 a.op.kind,.int .i64 a.op.at_,.int .i64 a.op.snap,.string a.op.data])
 change Exit.then _ _ _ _ (w3.drew.setCells gc (c*8+2) [.int .i64 cu.id,.int .i64 cu.next,.int .i64 a.op.kind,.int .i64 a.op.at_,.int .i64 a.op.snap,.string a.op.data])
 have u1':W4.cell? ⟨gc,c*8+1,none⟩=some (.int .i64 cu.next):=by rw [Hm];exact (World.cell?_setCells_out gc [.int .i64 cu.id,.int .i64 cu.next,.int .i64 a.op.kind,.int .i64 a.op.at_,.int .i64 a.op.snap,.string a.op.data] (c*8+2) w3.drew ⟨gc,c*8+1,none⟩ (fun _ _=>.inl (by show c*8+1 < c*8+2;omega))).trans u1
 have Hf:World.there W4 gc (c*8) 8:=by rw [Hm];exact World.there_setCells Hd gc _ _
 rw [<- Hm] at Hc ⊢
 have Kw:=(Hf 1 (by decide)).2
 have Hb:=Hc.1.putCust (k:=c) (by rw [List.length_set];exact hc) 1 [.int .i64 (cu.next+1)] (show 1+1<=8 by decide) (u:=⟨x.clients[c].id,x.clients[c].next+1,⟨x.clients[c].id,x.clients[c].next,a.op⟩⟩) (by simp only [List.getElem_set_self];rw [Hl.out];rfl)
 have Hg:(x.clients.set c ⟨x.clients[c].id,x.clients[c].next,⟨x.clients[c].id,x.clients[c].next,a.op⟩⟩).set c ⟨x.clients[c].id,x.clients[c].next+1,⟨x.clients[c].id,x.clients[c].next,a.op⟩⟩=x.clients.set c ⟨x.clients[c].id,x.clients[c].next+1,⟨x.clients[c].id,x.clients[c].next,a.op⟩⟩:=List.set_set ..
 dsimp only at Hb
 rw [Hg] at Hb
 have HE:=mA (mB Hb.1.e (Kq.out.trans (((Fr.refl base w3).drew.trans Hc.2).trans Hb.2)))
 have Kx:IntKind.i64.wrap (cu.next+1)=cu.next+1:=by
  have h:=Ki.out
  rw [Hl.out] at h
  exact IntWalk.i64_in _ (by omega)
 have gl4:gc < W4.heap.size:=by have h2:=Hc.2.size;have:w3.drew.heap.size=w3.heap.size:=rfl;omega
 clear Hm Hc Hb Hg Hd Hf Ke Hu Hv Kg u0 u1 c5 c6 c7 c8
 go_wp2
 go_ret
 exact ⟨zAb (zAd HY.out.2.symm),by rw [HY.out.1];exact HE.out.1,HE.out.2⟩
theorem zZv (a:Scu.Act) (w:World) (base gx:Nat) (x:Scu.Net) (rv sv fv cv tv:Value) (hN:NetW w base gx x rv sv fv cv tv) (hb:base<=w.heap.size) (h3:x.replicas.length=3) (Hm:x.slots.length=3) (Kc:x.flying.length<=80) (c:Nat) (Hg:a.c=c) (hc:c < x.clients.length) (Hn:a.kind≠1) (hw:x.clients[c].wait.num=0) (y:Scu.Net) (f:Int) (hy:y=x/\f=9):Calls Tryd.prog 44 #[.pointer (some ⟨gx,0,none⟩),.agg #[.int .i64 a.kind,.int .i64 a.c,.int .i64 a.r,.int .i64 a.k,.int .i64 a.n,.int .i64 a.op.kind,.int .i64 a.op.at_,.int .i64 a.op.snap,.string a.op.data]] w fun e w'=>e=.returned (.int .i64 f)/\NetE w' base gx y/\Fr base w w':=by
 have Hs:(a.kind == 1)=false:=by rw [beq_eq_false_iff_ne];exact Hn
 have HW:=mA hw
 clear Hn hw
 have Ht:decide (a.c < 0)=false:=by rw [decide_eq_false_iff_not];omega
 have Hu:decide ((x.clients.length:Int)<=a.c)=false:=by rw [decide_eq_false_iff_not];omega
 rw [Hg] at Ht Hu
 have Hv:=mA Hg
 clear Hg
 obtain ⟨B0,e0,B1,e1,B2,e2,B3,e3,B4,e4,rfl,rfl,rfl,rfl,rfl⟩:=hN.forms
 have Hc:=zAa w (.cells (aN a) 40)
 have HN:=mA (hN.below Hc)
 have HB:=mA (Blk.new w 40 (aN a))
 have Hd:=mA (Fr.of Hc hb)
 have He:=mA Hc
 have H3:=mA h3
 have Kd:=mA Hm
 have HY:=mA hy
 clear hN h3 Hm Hc hy
 go_enter Tryd.func44,Tryd.ntmps44
 go_upto_region 1 with fail
 obtain ⟨Wd,Ho⟩:=mJ (w.alloc (.cells (aN a) 40))
 rw [<- Ho] at HN HB Hd He ⊢
 clear Ho
 have Hh:=HB.out
 obtain ⟨a0,a1,a2,-,-,a5,a6,a7,a8⟩:=cz9 Hh
 obtain ⟨-,-,-,d3⟩:=cz4 HN.out.box
 have al:=Hh.lt
 have dl:=HN.out.box.lt
 clear Hh
 rw [Hv.out] at a1
 obtain ⟨gc,cc,ec,Ke,Hf,Hi,Hb,curc,Hp⟩:=HN.out.custAt hc
 obtain ⟨rfl,rfl⟩:B3=some ⟨gc,0,none⟩/\e3=cc:=by cases ec;exact ⟨rfl,rfl⟩
 obtain ⟨cu,Hj⟩:=mK (x.clients[c])
 rw [Hj] at Hi
 have Kf:(c:Int) < (x.clients.length:Int):=by omega
 have Hw:=mA Hj
 have Hq:=mA Hi
 have Hr:=mA Hb
 have Hx:w.heap.size≠gc:=zAo HB.out Hp (by decide)
 clear ec Hj Hi Hb Hp
 go_wp2_with fail
 go_quiet (fail)
 obtain ⟨W1,Hk⟩:=mJ (Wd.drewN nq)
 have h1:Below Wd.heap.size Wd W1:=by rw [Hk];exact below_drewN (mG _ _) _
 change Exit.then _ _ _ _ (Wd.drewN nq)
 rw [<- Hk]
 clear Hk
 have d3':=cW h1 dl d3
 have a1':=cW h1 al a1
 have dl1:gx < W1.heap.size:=mF dl h1.size
 have al1:w.heap.size < W1.heap.size:=mF al h1.size
 go_wp2_with fail
 go_quiet (fail)
 obtain ⟨W2,Hl⟩:=mJ (W1.drewN nq)
 have h2:Below Wd.heap.size Wd W2:=by rw [Hl];exact below_drewN h1 _
 change Exit.then _ _ _ _ (W1.drewN nq)
 rw [<- Hl]
 clear h1 d3' a1' dl1 al1
 have Hy:=mA (HN.out.below h2)
 have Hz:=mA (Hd.out.trans (Fr.of h2 (mD hb Hd.out.size)))
 have b0:=cW h2 al a0
 have b2:=cW h2 al a2
 have b5:=cW h2 al a5
 have b6:=cW h2 al a6
 have b7:=cW h2 al a7
 have b8:=cW h2 al a8
 have Ha:=fun (j:Nat) (v:Value) (hj:(custV cu)[j]? = some v)=>(h2.cell (p:=⟨gc,c*8+j,none⟩) Hf).trans (Hq.out j v hj)
 have v0:W2.cell? ⟨gc,c*8,none⟩=some (.int .i64 cu.id):=Ha 0 _ rfl
 have v1:W2.cell? ⟨gc,c*8+1,none⟩=some (.int .i64 cu.next):=Ha 1 _ rfl
 have v2:W2.cell? ⟨gc,c*8+2,none⟩=some (.int .i64 cu.wait.client):=Ha 2 _ rfl
 have v3:W2.cell? ⟨gc,c*8+3,none⟩=some (.int .i64 cu.wait.num):=Ha 3 _ rfl
 have v4:W2.cell? ⟨gc,c*8+4,none⟩=some (.int .i64 cu.wait.op.kind):=Ha 4 _ rfl
 have v5:W2.cell? ⟨gc,c*8+5,none⟩=some (.int .i64 cu.wait.op.at_):=Ha 5 _ rfl
 have v6:W2.cell? ⟨gc,c*8+6,none⟩=some (.int .i64 cu.wait.op.snap):=Ha 6 _ rfl
 have v7:W2.cell? ⟨gc,c*8+7,none⟩=some (.string cu.wait.op.data):=Ha 7 _ rfl
 have bl:w.heap.size < W2.heap.size:=mF al h2.size
 have gl:gc < W2.heap.size:=mF Hf h2.size
 have Ka:=mA (zBb Hr.out h2 Hf)
 have Kb:=mA (He.out.trans (h2.mono He.out.size))
 clear Hl Ha h2 a0 a1 a2 a5 a6 a7 a8 d3 al dl HN HB Hd He Hr Hq Hf
 have Kg:(cu.wait.num == 0)=true:=by rw [beq_iff_eq,<- Hw.out];exact HW.out
 go_wp2
 go_ret
 exact ⟨zAb (zAd HY.out.2.symm),by rw [HY.out.1];exact Hy.out.e,Hz.out⟩
theorem zZw (a:Scu.Act) (w:World) (base gx:Nat) (x:Scu.Net) (rv sv fv cv tv:Value) (hN:NetW w base gx x rv sv fv cv tv) (hb:base<=w.heap.size) (h3:x.replicas.length=3) (Hq:x.slots.length=3) (Kh:x.flying.length<=80) (c:Nat) (Hl:a.c=c) (hc:c < x.clients.length) (Hr:a.kind≠1) (hw:x.clients[c].wait.num≠0) (hr:a.r < 0\/3<=a.r) (y:Scu.Net) (f:Int) (hy:y=x/\f=6):Calls Tryd.prog 44 #[.pointer (some ⟨gx,0,none⟩),.agg #[.int .i64 a.kind,.int .i64 a.c,.int .i64 a.r,.int .i64 a.k,.int .i64 a.n,.int .i64 a.op.kind,.int .i64 a.op.at_,.int .i64 a.op.snap,.string a.op.data]] w fun e w'=>e=.returned (.int .i64 f)/\NetE w' base gx y/\Fr base w w':=by
 by_cases h0:a.r < 0
 ·have Kc:decide (a.r < 0)=true:=by simpa using h0
  clear h0 hr
  have Hs:(a.kind == 1)=false:=by rw [beq_eq_false_iff_ne];exact Hr
  have HW:=mA hw
  clear Hr hw
  have Ht:decide (a.c < 0)=false:=by rw [decide_eq_false_iff_not];omega
  have Hu:decide ((x.clients.length:Int)<=a.c)=false:=by rw [decide_eq_false_iff_not];omega
  rw [Hl] at Ht Hu
  have Hv:=mA Hl
  clear Hl
  obtain ⟨B0,e0,B1,e1,B2,e2,B3,e3,B4,e4,rfl,rfl,rfl,rfl,rfl⟩:=hN.forms
  have Hc:=zAa w (.cells (aN a) 40)
  have HN:=mA (hN.below Hc)
  have HB:=mA (Blk.new w 40 (aN a))
  have Hd:=mA (Fr.of Hc hb)
  have He:=mA Hc
  have H3:=mA h3
  have Kd:=mA Hq
  have HY:=mA hy
  clear hN h3 Hq Hc hy
  go_enter Tryd.func44,Tryd.ntmps44
  go_upto_region 1 with fail
  obtain ⟨Wd,Hm⟩:=mJ (w.alloc (.cells (aN a) 40))
  rw [<- Hm] at HN HB Hd He ⊢
  clear Hm
  have Hg:=HB.out
  obtain ⟨a0,a1,a2,-,-,a5,a6,a7,a8⟩:=cz9 Hg
  obtain ⟨-,-,-,d3⟩:=cz4 HN.out.box
  have al:=Hg.lt
  have dl:=HN.out.box.lt
  clear Hg
  rw [Hv.out] at a1
  obtain ⟨gc,cc,ec,Ke,Hf,Hh,Hb,curc,Hn⟩:=HN.out.custAt hc
  obtain ⟨rfl,rfl⟩:B3=some ⟨gc,0,none⟩/\e3=cc:=by cases ec;exact ⟨rfl,rfl⟩
  obtain ⟨cu,Hi⟩:=mK (x.clients[c])
  rw [Hi] at Hh
  have Kf:(c:Int) < (x.clients.length:Int):=by omega
  have Hw:=mA Hi
  have Ho:=mA Hh
  have Hp:=mA Hb
  have Hx:w.heap.size≠gc:=zAo HB.out Hn (by decide)
  clear ec Hi Hh Hb Hn
  go_wp2_with fail
  go_quiet (fail)
  obtain ⟨W1,Hj⟩:=mJ (Wd.drewN nq)
  have h1:Below Wd.heap.size Wd W1:=by rw [Hj];exact below_drewN (mG _ _) _
  change Exit.then _ _ _ _ (Wd.drewN nq)
  rw [<- Hj]
  clear Hj
  have d3':=cW h1 dl d3
  have a1':=cW h1 al a1
  have dl1:gx < W1.heap.size:=mF dl h1.size
  have al1:w.heap.size < W1.heap.size:=mF al h1.size
  go_wp2_with fail
  go_quiet (fail)
  obtain ⟨W2,Hk⟩:=mJ (W1.drewN nq)
  have h2:Below Wd.heap.size Wd W2:=by rw [Hk];exact below_drewN h1 _
  change Exit.then _ _ _ _ (W1.drewN nq)
  rw [<- Hk]
  clear h1 d3' a1' dl1 al1
  have Hy:=mA (HN.out.below h2)
  have Hz:=mA (Hd.out.trans (Fr.of h2 (mD hb Hd.out.size)))
  have b0:=cW h2 al a0
  have b2:=cW h2 al a2
  have b5:=cW h2 al a5
  have b6:=cW h2 al a6
  have b7:=cW h2 al a7
  have b8:=cW h2 al a8
  have Ha:=fun (j:Nat) (v:Value) (hj:(custV cu)[j]? = some v)=>(h2.cell (p:=⟨gc,c*8+j,none⟩) Hf).trans (Ho.out j v hj)
  have v0:W2.cell? ⟨gc,c*8,none⟩=some (.int .i64 cu.id):=Ha 0 _ rfl
  have v1:W2.cell? ⟨gc,c*8+1,none⟩=some (.int .i64 cu.next):=Ha 1 _ rfl
  have v2:W2.cell? ⟨gc,c*8+2,none⟩=some (.int .i64 cu.wait.client):=Ha 2 _ rfl
  have v3:W2.cell? ⟨gc,c*8+3,none⟩=some (.int .i64 cu.wait.num):=Ha 3 _ rfl
  have v4:W2.cell? ⟨gc,c*8+4,none⟩=some (.int .i64 cu.wait.op.kind):=Ha 4 _ rfl
  have v5:W2.cell? ⟨gc,c*8+5,none⟩=some (.int .i64 cu.wait.op.at_):=Ha 5 _ rfl
  have v6:W2.cell? ⟨gc,c*8+6,none⟩=some (.int .i64 cu.wait.op.snap):=Ha 6 _ rfl
  have v7:W2.cell? ⟨gc,c*8+7,none⟩=some (.string cu.wait.op.data):=Ha 7 _ rfl
  have bl:w.heap.size < W2.heap.size:=mF al h2.size
  have gl:gc < W2.heap.size:=mF Hf h2.size
  have Ka:=mA (zBb Hp.out h2 Hf)
  have Kb:=mA (He.out.trans (h2.mono He.out.size))
  clear Hk Ha h2 a0 a1 a2 a5 a6 a7 a8 d3 al dl HN HB Hd He Hp Ho Hf
  have Kg:(cu.wait.num == 0)=false:=by rw [beq_eq_false_iff_ne,<- Hw.out];exact HW.out
  go_wp2
  go_ret
  exact ⟨zAb (zAd HY.out.2.symm),by rw [HY.out.1];exact Hy.out.e,Hz.out⟩
 have Kc:decide (a.r < 0)=false:=by simpa using h0
 have Ki:decide (3<=a.r)=true:=by rw [decide_eq_true_eq];omega
 clear h0 hr
 have Hs:(a.kind == 1)=false:=by rw [beq_eq_false_iff_ne];exact Hr
 have HW:=mA hw
 clear Hr hw
 have Ht:decide (a.c < 0)=false:=by rw [decide_eq_false_iff_not];omega
 have Hu:decide ((x.clients.length:Int)<=a.c)=false:=by rw [decide_eq_false_iff_not];omega
 rw [Hl] at Ht Hu
 have Hv:=mA Hl
 clear Hl
 obtain ⟨B0,e0,B1,e1,B2,e2,B3,e3,B4,e4,rfl,rfl,rfl,rfl,rfl⟩:=hN.forms
 have Hc:=zAa w (.cells (aN a) 40)
 have HN:=mA (hN.below Hc)
 have HB:=mA (Blk.new w 40 (aN a))
 have Hd:=mA (Fr.of Hc hb)
 have He:=mA Hc
 have H3:=mA h3
 have Kd:=mA Hq
 have HY:=mA hy
 clear hN h3 Hq Hc hy
 go_enter Tryd.func44,Tryd.ntmps44
 go_upto_region 1 with fail
 obtain ⟨Wd,Hm⟩:=mJ (w.alloc (.cells (aN a) 40))
 rw [<- Hm] at HN HB Hd He ⊢
 clear Hm
 have Hg:=HB.out
 obtain ⟨a0,a1,a2,-,-,a5,a6,a7,a8⟩:=cz9 Hg
 obtain ⟨-,-,-,d3⟩:=cz4 HN.out.box
 have al:=Hg.lt
 have dl:=HN.out.box.lt
 clear Hg
 rw [Hv.out] at a1
 obtain ⟨gc,cc,ec,Ke,Hf,Hh,Hb,curc,Hn⟩:=HN.out.custAt hc
 obtain ⟨rfl,rfl⟩:B3=some ⟨gc,0,none⟩/\e3=cc:=by cases ec;exact ⟨rfl,rfl⟩
 obtain ⟨cu,Hi⟩:=mK (x.clients[c])
 rw [Hi] at Hh
 have Kf:(c:Int) < (x.clients.length:Int):=by omega
 have Hw:=mA Hi
 have Ho:=mA Hh
 have Hp:=mA Hb
 have Hx:w.heap.size≠gc:=zAo HB.out Hn (by decide)
 clear ec Hi Hh Hb Hn
 go_wp2_with fail
 go_quiet (fail)
 obtain ⟨W1,Hj⟩:=mJ (Wd.drewN nq)
 have h1:Below Wd.heap.size Wd W1:=by rw [Hj];exact below_drewN (mG _ _) _
 change Exit.then _ _ _ _ (Wd.drewN nq)
 rw [<- Hj]
 clear Hj
 have d3':=cW h1 dl d3
 have a1':=cW h1 al a1
 have dl1:gx < W1.heap.size:=mF dl h1.size
 have al1:w.heap.size < W1.heap.size:=mF al h1.size
 go_wp2_with fail
 go_quiet (fail)
 obtain ⟨W2,Hk⟩:=mJ (W1.drewN nq)
 have h2:Below Wd.heap.size Wd W2:=by rw [Hk];exact below_drewN h1 _
 change Exit.then _ _ _ _ (W1.drewN nq)
 rw [<- Hk]
 clear h1 d3' a1' dl1 al1
 have Hy:=mA (HN.out.below h2)
 have Hz:=mA (Hd.out.trans (Fr.of h2 (mD hb Hd.out.size)))
 have b0:=cW h2 al a0
 have b2:=cW h2 al a2
 have b5:=cW h2 al a5
 have b6:=cW h2 al a6
 have b7:=cW h2 al a7
 have b8:=cW h2 al a8
 have Ha:=fun (j:Nat) (v:Value) (hj:(custV cu)[j]? = some v)=>(h2.cell (p:=⟨gc,c*8+j,none⟩) Hf).trans (Ho.out j v hj)
 have v0:W2.cell? ⟨gc,c*8,none⟩=some (.int .i64 cu.id):=Ha 0 _ rfl
 have v1:W2.cell? ⟨gc,c*8+1,none⟩=some (.int .i64 cu.next):=Ha 1 _ rfl
 have v2:W2.cell? ⟨gc,c*8+2,none⟩=some (.int .i64 cu.wait.client):=Ha 2 _ rfl
 have v3:W2.cell? ⟨gc,c*8+3,none⟩=some (.int .i64 cu.wait.num):=Ha 3 _ rfl
 have v4:W2.cell? ⟨gc,c*8+4,none⟩=some (.int .i64 cu.wait.op.kind):=Ha 4 _ rfl
 have v5:W2.cell? ⟨gc,c*8+5,none⟩=some (.int .i64 cu.wait.op.at_):=Ha 5 _ rfl
 have v6:W2.cell? ⟨gc,c*8+6,none⟩=some (.int .i64 cu.wait.op.snap):=Ha 6 _ rfl
 have v7:W2.cell? ⟨gc,c*8+7,none⟩=some (.string cu.wait.op.data):=Ha 7 _ rfl
 have bl:w.heap.size < W2.heap.size:=mF al h2.size
 have gl:gc < W2.heap.size:=mF Hf h2.size
 have Ka:=mA (zBb Hp.out h2 Hf)
 have Kb:=mA (He.out.trans (h2.mono He.out.size))
 clear Hk Ha h2 a0 a1 a2 a5 a6 a7 a8 d3 al dl HN HB Hd He Hp Ho Hf
 have Kg:(cu.wait.num == 0)=false:=by rw [beq_eq_false_iff_ne,<- Hw.out];exact HW.out
 go_wp2
 go_ret
 exact ⟨zAb (zAd HY.out.2.symm),by rw [HY.out.1];exact Hy.out.e,Hz.out⟩
end Go.Proofs.YtnpphdaakookcaaDoor
