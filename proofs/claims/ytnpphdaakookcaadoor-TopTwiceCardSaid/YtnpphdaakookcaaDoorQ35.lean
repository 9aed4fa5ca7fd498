/- Part 35: words and walks under the laws of the whole. -/
import Derived.Test.YtnpphdaakookcaaDoorQ34
set_option linter.unusedVariables false
set_option linter.unusedSimpArgs false
set_option maxHeartbeats 4000000
set_option maxRecDepth 100000
namespace Go.Proofs.YtnpphdaakookcaaDoor
open Go.RowKit
theorem zWu (a:Scu.Act) (w:World) (base gx:Nat) (x:Scu.Net) (rv sv fv cv tv:Value) (hN:NetW w base gx x rv sv fv cv tv) (hb:base<=w.heap.size) (h3:x.replicas.length=3) (Kd:x.slots.length=3) (Va:x.flying.length<=80) (k:Nat) (Hv:a.k=k) (hk:k < x.flying.length) (Ke:a.kind=7) (y:Scu.Net) (f:Int) (hy:y = { x with flying:=x.flying.eraseIdx k }/\f=0):Calls Tryd.prog 46 #[.pointer (some ⟨gx,0,none⟩),.agg #[.int .i64 a.kind,.int .i64 a.c,.int .i64 a.r,.int .i64 a.k,.int .i64 a.n,.int .i64 a.op.kind,.int .i64 a.op.at_,.int .i64 a.op.snap,.string a.op.data]] w fun e w'=>e=.returned (.int .i64 f)/\NetE w' base gx y/\Fr base w w':=by
 have Ks:(a.kind == 8)=false:=by rw [beq_eq_false_iff_ne];omega
 have Kf:(a.kind == 10)=false:=by rw [beq_eq_false_iff_ne];omega
 have Kt:(a.kind == 7)=true:=by rw [beq_iff_eq];exact Ke
 clear Ke
 have Ku:decide (a.k < 0)=false:=by rw [decide_eq_false_iff_not];omega
 have Kv:decide ((x.flying.length:Int)<=a.k)=false:=by rw [decide_eq_false_iff_not];omega
 rw [Hv] at Ku Kv
 have Kw:=mA Hv
 clear Hv
 obtain ⟨B0,e0,B1,e1,B2,e2,B3,e3,B4,e4,rfl,rfl,rfl,rfl,rfl⟩:=hN.forms
 have Hs:=zAa w (.cells (aN a) 40)
 have HN:=mA (hN.below Hs)
 have HB:=mA (Blk.new w 40 (aN a))
 have Hl:=mA (Fr.of Hs hb)
 have Kg:=mA Hs
 have H3:=mA h3
 have Vb:=mA Kd
 have HY:=mA hy
 clear hN h3 Kd Hs hy
 go_enter Tryd.func46,Tryd.ntmps46
 go_upto_region 1 with fail
 obtain ⟨Wd,Hq⟩:=mJ (w.alloc (.cells (aN a) 40))
 rw [<- Hq] at HN HB Hl Kg ⊢
 clear Hq
 have Hw:=HB.out
 obtain ⟨a0,-,-,a3,a4⟩:=cz5 Hw
 obtain ⟨-,-,d2⟩:=cz3 HN.out.box
 have al:=Hw.lt
 have dl:=HN.out.box.lt
 clear Hw
 rw [Kw.out] at a3
 obtain ⟨gf,cf,lu,ef,Vc,Hh,Ht,Hi,-,curf,Kh⟩:=HN.out.flyAt hk
 obtain ⟨rfl,rfl⟩:B2=some ⟨gf,0,none⟩/\e2=cf:=by cases ef;exact ⟨rfl,rfl⟩
 obtain ⟨Al,nl,cl,rfl⟩:=Ht.form
 obtain ⟨m,hm⟩:=mK (x.flying[k])
 rw [hm] at Ht Hi
 have t0:Wd.cell? ⟨gf,k*8,none⟩=some (.int .i64 m.kind):=Hi 0 _ rfl
 have t1:Wd.cell? ⟨gf,k*8+1,none⟩=some (.int .i64 m.from_):=Hi 1 _ rfl
 have t2:Wd.cell? ⟨gf,k*8+2,none⟩=some (.int .i64 m.tq):=Hi 2 _ rfl
 have t3:Wd.cell? ⟨gf,k*8+3,none⟩=some (.int .i64 m.view):=Hi 3 _ rfl
 have t4:Wd.cell? ⟨gf,k*8+4,none⟩=some (.int .i64 m.normal):=Hi 4 _ rfl
 have t5:Wd.cell? ⟨gf,k*8+5,none⟩=some (.int .i64 m.commit):=Hi 5 _ rfl
 have t6:Wd.cell? ⟨gf,k*8+6,none⟩=some (.int .i64 m.n):=Hi 6 _ rfl
 have t7:Wd.cell? ⟨gf,k*8+7,none⟩=some (.slice Al nl cl):=Hi 7 _ rfl
 have Vd:(k:Int) < (x.flying.length:Int):=by omega
 have Ki:=mA Ht
 have HM:=mA hm
 clear ef Hi Ht hm
 go_wp2_with fail
 go_quiet (fail)
 go_wp2_with fail
 obtain ⟨S,He⟩:∃ S:World->Prop,S=fun w'=>Below Wd.heap.size Wd w':=⟨_,rfl⟩
 have Hf:S ((Wd.drewN nq).drew):=by rw [He];exact (below_drewN (mG _ _) nq).drew
 refine wp_region_held (S:=S) (by kernel_rfl) ?_
 change wpAnyH _ _ _ _ _ _ _ _ ((Wd.drewN nq).drew)
 have Kx:=fun (wv:World) (Hb:Below Wd.heap.size Wd wv)=>mB (cW Hb dl d2) (mB (cW Hb al a3) (mB (cW Hb Hh t0) (mB (cW Hb Hh t1) (mB (cW Hb Hh t2) (mB (cW Hb Hh t3) (mB (cW Hb Hh t4) (mB (cW Hb Hh t5) (mB (cW Hb Hh t6) (cW Hb Hh t7)))))))))
 refine tkHs [0,1,2,3,4,5,6,7] (by kernel_rfl) (fun _ _ _ _ _ h=>h) Hf ?_
 iterate 8
  refine tkc (v:=?_) rfl (Or.inl ⟨by rfl,?_⟩) ?_
  rotate_left
  ·(intro wv Hb;rw [He] at Hb;obtain ⟨q0,q1,s0,s1,s2,s3,s4,s5,s6,s7⟩:=Kx wv Hb;go_simp;(try with_reducible rfl))
  (try simp only [Act.put,zp1,zp2,zp3])
 refine tkz ?_
 refine alH 8 (by kernel_rfl) (wpOp_step (o:=_) rfl fun KA Kj=>?_)
 go_simp
 have Hf:S (((Wd.drewN nq).drew).alloc (.cells #[.int .i64 0,.int .i64 0,.int .i64 0,.int .i64 0,.int .i64 0,.int .i64 0,.int .i64 0,.slice none 0 0] 137)):=by rw [He];exact ((below_drewN (mG _ _) nq).drew).alloc (mC _) _
 refine Kj _ _ ⟨Hf,?_⟩
 (try simp only [Act.put,zp1,zp2,zp3])
 refine alH 9 (by kernel_rfl) (wpOp_step (o:=_) rfl fun KB Kk=>?_)
 rw [if_pos (by rfl)]
 refine wp_store_mid 137 (.tmp 5) (.tmp 30) rfl Wd.heap.size 0 (mN m Al nl cl) rfl rfl (zAs (Blk.new' (w:=(Wd.drewN nq).drew) (g:=Wd.heap.size) (t:=137) (cs:=#[.int .i64 0,.int .i64 0,.int .i64 0,.int .i64 0,.int .i64 0,.int .i64 0,.int .i64 0,.slice none 0 0]) rfl)) (by kernel_rfl) (all_oneCell_toArray zEy) ?_
 have HQ:=mA (zDs Ki.out ((below_drewN (mG _ _) nq).drew.alloc (mC _) _) (Blk.new' (w:=(Wd.drewN nq).drew) (g:=Wd.heap.size) (t:=137) (cs:=#[.int .i64 0,.int .i64 0,.int .i64 0,.int .i64 0,.int .i64 0,.int .i64 0,.int .i64 0,.slice none 0 0]) rfl) (mC _))
 obtain ⟨W2,Hr⟩:=mJ ((((Wd.drewN nq).drew).alloc (.cells #[.int .i64 0,.int .i64 0,.int .i64 0,.int .i64 0,.int .i64 0,.int .i64 0,.int .i64 0,.slice none 0 0] 137)).setCells Wd.heap.size 0 [.int .i64 m.kind,.int .i64 m.from_,.int .i64 m.tq,.int .i64 m.view,.int .i64 m.normal,.int .i64 m.commit,.int .i64 m.n,.slice Al nl cl])
 have Hx:S W2:=by rw [He,Hr];rw [He] at Hf;exact zAh (mC _) _ 0 _ _ Hf
 rw [<- Hr] at HQ
 refine Kk _ _ ⟨by rw [Hr] at Hx;exact Hx,wpAnyH_done (by kernel_rfl) ?_ _⟩
 (try simp only [Act.put,zp1,zp2,zp3])
 change Exit.then _ _ _ _ ((((Wd.drewN nq).drew).alloc (.cells #[.int .i64 0,.int .i64 0,.int .i64 0,.int .i64 0,.int .i64 0,.int .i64 0,.int .i64 0,.slice none 0 0] 137)).setCells Wd.heap.size 0 [.int .i64 m.kind,.int .i64 m.from_,.int .i64 m.tq,.int .i64 m.view,.int .i64 m.normal,.int .i64 m.commit,.int .i64 m.n,.slice Al nl cl])
 rw [<- Hr]
 clear Hr Hx Hf He Kj Kk t0 t1 t2 t3 t4 t5 t6 t7
 obtain ⟨gm,Kl⟩:=mK (Wd.heap.size)
 have Hu:=mA (HN.out.below HQ.out.1)
 have Km:=mA (Hl.out.trans (Fr.of HQ.out.1 (mD hb Hl.out.size)))
 have Hy:=mA HQ.out.2.1
 have Ky:=mA HQ.out.2.2
 have Kz:=mA HQ.out.1
 have b0:=cW HQ.out.1 al a0
 have b3:=cW HQ.out.1 al a3
 have b4:=cW HQ.out.1 al a4
 have c2:=cW HQ.out.1 dl d2
 have bl:w.heap.size < W2.heap.size:=mF al HQ.out.1.size
 have cl2:gx < W2.heap.size:=mF dl HQ.out.1.size
 have gml:Wd.heap.size < W2.heap.size:=Hy.out.lt
 have gfm:gf < Wd.heap.size:=Hh
 have wm:w.heap.size < Wd.heap.size:=al
 have gxm:gx < Wd.heap.size:=dl
 have Hz:w.heap.size≠gf:=zAo HB.out Kh (by decide)
 have Ka:w.heap.size≠gx:=zAo HB.out HN.out.box (by decide)
 rw [Kl] at Hy gml gfm wm gxm ⊢
 clear a0 a3 a4 d2 al dl HQ HN Hl HB Ki Kg Kl Hh Kh
 obtain ⟨fss,Kn⟩:=Hu.out.fly
 have Hp:=mA Kn
 have Hm:x.flying.length<=1000:=by omega
 have Ve:IntKind.i64.wrap ((k:Int)+1)=(k:Int)+1:=IntWalk.i64_in _ (by omega)
 clear Kn
 go_wp2_with fail
 obtain ⟨S,He⟩:∃ S:World->Prop,S=fun w'=>w'.cell? ⟨gx,2,none⟩=some (.slice (some ⟨gf,0,none⟩) x.flying.length e2)/\w'.cell? ⟨w.heap.size,3,none⟩=some (.int .i64 (k:Int)):=⟨_,rfl⟩
 have Hf:S W2.drew:=by rw [He];exact ⟨c2,b3⟩
 refine zAq S 13 (by kernel_rfl) (fun Hn=>?_)
 change wpAnyE _ _ _ _ _ _ _ _ _ W2.drew
 refine tkEs 10 [0,1,2,3,4,5,6,7,8,9] (by kernel_rfl) (fun _ _ _ _ _ h=>h) Hn Hf ?_
 iterate 10
  refine tkc (v:=?_) rfl (Or.inl ⟨by rfl,?_⟩) ?_
  rotate_left
  ·(intro wv Hb;rw [He] at Hb;obtain ⟨s0,s1⟩:=Hb;go_simp;(try with_reducible rfl))
  (try simp only [Act.put,zp1,zp2,zp3])
 refine tkz (fun Hn=>?_)
 refine alE 10 (by kernel_rfl) (wpOp_step (o:=_) rfl fun KS Ko=>?_)
 go_simp
 refine (zJr gf e2 k x.flying fss W2.drew base (Hp.out.same (B:=0) (Ts:=[9,137]) (by simp) (Same.drew _) (fun _ _ h=>h.same (Ts:=[9]) (by simp) (Same.drew _))) hk Hm).mono ?_;rintro en w' ⟨rfl,Kp⟩
 have Hc:=(Hu.out.below ((mG W2.heap.size W2).drew.drew)).delFly (css:=fss) (Hp.out.same (B:=0) (Ts:=[9,137]) (by simp) ((Same.drew _).trans (Same.drew _)) (fun _ _ h=>h.same (Ts:=[9]) (by simp) ((Same.drew _).trans (Same.drew _)))) hk Kp
 have Kb:gx≠gf:=zAo Hu.out.box (zAw Hp.out.row).2.choose_spec (by decide)
 have Kc:w.heap.size≠gf:=by
  have h1:=Hp.out.lt gf rfl
  have h2:=(zAw Hp.out.row).2.choose_spec
  intro e
  exact Hz e
 have e2':w'.cell? ⟨gx,2,none⟩=some (.slice (some ⟨gf,0,none⟩) x.flying.length e2):=(Hc.2.2.2.1 ⟨gx,2,none⟩ Kb).trans c2
 have e3':w'.cell? ⟨w.heap.size,3,none⟩=some (.int .i64 (k:Int)):=(Hc.2.2.2.1 ⟨w.heap.size,3,none⟩ Kc).trans b3
 have ez:=Hc.2.2.1.frozen
 have el:=Hc.2.2.1.lt
 have Hf:S w':=by rw [He];exact ⟨e2',e3'⟩
 have Hd:=mA Hc
 clear Kp Hc
 refine Ko _ _ ⟨.inr Hf,?_⟩
 have Hn:=Hn.set (i:=10) (by rw [<- List.contains_iff_mem];kernel_rfl)
 (try simp only [Act.put,zp1,zp2,zp3])
 refine tkEs 10 [11,12] (by kernel_rfl) (fun _ _ _ _ _ h=>h) Hn Hf ?_
 iterate 2
  refine tkc (v:=?_) rfl (Or.inl ⟨by rfl,?_⟩) ?_
  rotate_left
  ·(intro wv Hb;rw [He] at Hb;obtain ⟨s0,s1⟩:=Hb;go_simp;(try with_reducible rfl))
  (try simp only [Act.put,zp1,zp2,zp3])
 refine tkz (fun Hn=>?_)
 refine alE 13 (by kernel_rfl) (wpOp_step (o:=_) rfl fun KU Kq=>?_)
 go_simp
 refine Kq _ _ ⟨.inl rfl,zAp (by kernel_rfl) ?_ _⟩
 (try simp only [Act.put,zp1,zp2,zp3])
 obtain ⟨Wd,Hq⟩:=mJ (w'.setCell ⟨gx,2,none⟩ (.slice (some ⟨gf,0,none⟩) (x.flying.length - 1) e2))
 change Exit.then _ _ _ _ (w'.setCell ⟨gx,2,none⟩ (.slice (some ⟨gf,0,none⟩) (x.flying.length - 1) e2))
 have HN:=mA Hd.out.1
 have Hl:=mA (Km.out.trans (((Fr.refl base W2).drew.drew).trans Hd.out.2.1))
 have Ha:∀ q:Addr,q.block≠gf->q.block≠gx->(w'.setCell ⟨gx,2,none⟩ (.slice (some ⟨gf,0,none⟩) (x.flying.length - 1) e2)).cell? q=W2.cell? q:=fun q h1 h2=>(zAm h2).trans (Hd.out.2.2.2.1 q h1)
 have Hg:W2.heap.size<=(w'.setCell ⟨gx,2,none⟩ (.slice (some ⟨gf,0,none⟩) (x.flying.length - 1) e2)).heap.size:=Hd.out.2.1.size
 have Ho:Same [9] 0 W2 (w'.setCell ⟨gx,2,none⟩ (.slice (some ⟨gf,0,none⟩) (x.flying.length - 1) e2)):=(Same.drew _).trans ((Same.drew _).trans (Hd.out.2.1.2.mono (by simp) (mC _)))
 rw [<- Hq] at HN Hl Ha Hg Ho ⊢
 have Kr:w.heap.size≠gx:=Ka
 have Hj:gm≠gf:=by omega
 have Hk:gm≠gx:=by omega
 have mb:=Hy.out
 obtain ⟨p0,p1,p2,p3,p4,p5,p6,p7⟩:=cz8 mb
 have a0:=(Ha ⟨w.heap.size,0,none⟩ Kc Kr).trans b0
 have a4:=(Ha ⟨w.heap.size,4,none⟩ Kc Kr).trans b4
 have mm0:=(Ha ⟨gm,0,none⟩ Hj Hk).trans p0
 have mm1:=(Ha ⟨gm,1,none⟩ Hj Hk).trans p1
 have mm2:=(Ha ⟨gm,2,none⟩ Hj Hk).trans p2
 have mm3:=(Ha ⟨gm,3,none⟩ Hj Hk).trans p3
 have mm4:=(Ha ⟨gm,4,none⟩ Hj Hk).trans p4
 have mm5:=(Ha ⟨gm,5,none⟩ Hj Hk).trans p5
 have mm6:=(Ha ⟨gm,6,none⟩ Hj Hk).trans p6
 have mm7:=(Ha ⟨gm,7,none⟩ Hj Hk).trans p7
 have al:w.heap.size < Wd.heap.size:=by omega
 have ml:gm < Wd.heap.size:=by omega
 have Vf:=mA (Ky.out.same (Ts:=[9]) (by simp) Ho)
 clear Hq Ha Hg Ho mb p0 p1 p2 p3 p4 p5 p6 p7 b0 b3 b4 c2 Kq Ko Hf He Hn e2' e3' ez el Hd Hp Km Hu Kz bl cl2 gml
 go_wp2
 go_ret
 exact ⟨zAb (zAd HY.out.2.symm),by rw [HY.out.1];exact HN.out.e,Hl.out⟩
theorem zWv (a:Scu.Act) (w:World) (base gx:Nat) (x:Scu.Net) (rv sv fv cv tv:Value) (hN:NetW w base gx x rv sv fv cv tv) (hb:base<=w.heap.size) (h3:x.replicas.length=3) (Kz:x.slots.length=3) (Vz:x.flying.length<=80) (k:Nat) (Kq:a.k=k) (hk:k < x.flying.length) (Va:a.kind≠7) (Vb:a.kind≠8) (Hy:a.kind≠10) (Vc:0<=x.flying[k].tq/\x.flying[k].tq < 3) (rr:Scu.Replica) (ms:List Scu.Message) (fr:Int)
 (hd:∀ (r:Nat) (hr:r < x.replicas.length),(r:Int)=x.flying[k].tq->Scu.hear x.replicas[r] x.flying[k]=(rr,ms,fr)) (y:Scu.Net) (f:Int) (Vd:∀ r:Nat,(r:Int)=x.flying[k].tq->(if fr≠0 then ({ x with flying:=x.flying.eraseIdx k },fr) else Scu.settle { x with flying:=x.flying.eraseIdx k } r rr ms (-1))=(y,f)) (hy:True):Calls Tryd.prog 46 #[.pointer (some ⟨gx,0,none⟩),.agg #[.int .i64 a.kind,.int .i64 a.c,.int .i64 a.r,.int .i64 a.k,.int .i64 a.n,.int .i64 a.op.kind,.int .i64 a.op.at_,.int .i64 a.op.snap,.string a.op.data]] w fun e w'=>e=.returned (.int .i64 f)/\NetE w' base gx y/\Fr base w w':=by
 have Ga:(a.kind == 8)=false:=by rw [beq_eq_false_iff_ne];exact Vb
 have Ve:(a.kind == 10)=false:=by rw [beq_eq_false_iff_ne];exact Hy
 have Gb:(a.kind == 7)=false:=by rw [beq_eq_false_iff_ne];exact Va
 clear Va Vb Hy
 have Gc:decide (a.k < 0)=false:=by rw [decide_eq_false_iff_not];omega
 have Gd:decide ((x.flying.length:Int)<=a.k)=false:=by rw [decide_eq_false_iff_not];omega
 rw [Kq] at Gc Gd
 have Ge:=mA Kq
 clear Kq
 obtain ⟨B0,e0,B1,e1,B2,e2,B3,e3,B4,e4,rfl,rfl,rfl,rfl,rfl⟩:=hN.forms
 have Kj:=zAa w (.cells (aN a) 40)
 have HN:=mA (hN.below Kj)
 have HB:=mA (Blk.new w 40 (aN a))
 have Hm:=mA (Fr.of Kj hb)
 have Vf:=mA Kj
 have H3:=mA h3
 have Gf:=mA Kz
 have HY:=mA hy
 clear hN h3 Kz Kj hy
 go_enter Tryd.func46,Tryd.ntmps46
 go_upto_region 1 with fail
 obtain ⟨Wd,Hz⟩:=mJ (w.alloc (.cells (aN a) 40))
 rw [<- Hz] at HN HB Hm Vf ⊢
 clear Hz
 have Hs:=HB.out
 obtain ⟨a0,-,-,a3,a4⟩:=cz5 Hs
 obtain ⟨-,-,d2⟩:=cz3 HN.out.box
 have al:=Hs.lt
 have dl:=HN.out.box.lt
 clear Hs
 rw [Ge.out] at a3
 obtain ⟨gf,cf,lu,ef,Gq,Hl,Kk,He,-,curf,Vg⟩:=HN.out.flyAt hk
 obtain ⟨rfl,rfl⟩:B2=some ⟨gf,0,none⟩/\e2=cf:=by cases ef;exact ⟨rfl,rfl⟩
 obtain ⟨Al,nl,cl,rfl⟩:=Kk.form
 obtain ⟨m,hm⟩:=mK (x.flying[k])
 rw [hm] at Kk He
 have t0:Wd.cell? ⟨gf,k*8,none⟩=some (.int .i64 m.kind):=He 0 _ rfl
 have t1:Wd.cell? ⟨gf,k*8+1,none⟩=some (.int .i64 m.from_):=He 1 _ rfl
 have t2:Wd.cell? ⟨gf,k*8+2,none⟩=some (.int .i64 m.tq):=He 2 _ rfl
 have t3:Wd.cell? ⟨gf,k*8+3,none⟩=some (.int .i64 m.view):=He 3 _ rfl
 have t4:Wd.cell? ⟨gf,k*8+4,none⟩=some (.int .i64 m.normal):=He 4 _ rfl
 have t5:Wd.cell? ⟨gf,k*8+5,none⟩=some (.int .i64 m.commit):=He 5 _ rfl
 have t6:Wd.cell? ⟨gf,k*8+6,none⟩=some (.int .i64 m.n):=He 6 _ rfl
 have t7:Wd.cell? ⟨gf,k*8+7,none⟩=some (.slice Al nl cl):=He 7 _ rfl
 have Gr:(k:Int) < (x.flying.length:Int):=by omega
 have Vh:=mA Kk
 have HM:=mA hm
 clear ef He Kk hm
 go_wp2_with fail
 go_quiet (fail)
 go_wp2_with fail
 obtain ⟨S,Hd⟩:∃ S:World->Prop,S=fun w'=>Below Wd.heap.size Wd w':=⟨_,rfl⟩
 have Hc:S ((Wd.drewN nq).drew):=by rw [Hd];exact (below_drewN (mG _ _) nq).drew
 refine wp_region_held (S:=S) (by kernel_rfl) ?_
 change wpAnyH _ _ _ _ _ _ _ _ ((Wd.drewN nq).drew)
 have Gg:=fun (wv:World) (Ha:Below Wd.heap.size Wd wv)=>mB (cW Ha dl d2) (mB (cW Ha al a3) (mB (cW Ha Hl t0) (mB (cW Ha Hl t1) (mB (cW Ha Hl t2) (mB (cW Ha Hl t3) (mB (cW Ha Hl t4) (mB (cW Ha Hl t5) (mB (cW Ha Hl t6) (cW Ha Hl t7)))))))))
 refine tkHs [0,1,2,3,4,5,6,7] (by kernel_rfl) (fun _ _ _ _ _ h=>h) Hc ?_
 iterate 8
  refine tkc (v:=?_) rfl (Or.inl ⟨by rfl,?_⟩) ?_
  rotate_left
  ·(intro wv Ha;rw [Hd] at Ha;obtain ⟨q0,q1,s0,s1,s2,s3,s4,s5,s6,s7⟩:=Gg wv Ha;go_simp;(try with_reducible rfl))
  (try simp only [Act.put,zp1,zp2,zp3])
 refine tkz ?_
 refine alH 8 (by kernel_rfl) (wpOp_step (o:=_) rfl fun KA Hn=>?_)
 go_simp
 have Hc:S (((Wd.drewN nq).drew).alloc (.cells #[.int .i64 0,.int .i64 0,.int .i64 0,.int .i64 0,.int .i64 0,.int .i64 0,.int .i64 0,.slice none 0 0] 137)):=by rw [Hd];exact ((below_drewN (mG _ _) nq).drew).alloc (mC _) _
 refine Hn _ _ ⟨Hc,?_⟩
 (try simp only [Act.put,zp1,zp2,zp3])
 refine alH 9 (by kernel_rfl) (wpOp_step (o:=_) rfl fun KB Ho=>?_)
 rw [if_pos (by rfl)]
 refine wp_store_mid 137 (.tmp 5) (.tmp 30) rfl Wd.heap.size 0 (mN m Al nl cl) rfl rfl (zAs (Blk.new' (w:=(Wd.drewN nq).drew) (g:=Wd.heap.size) (t:=137) (cs:=#[.int .i64 0,.int .i64 0,.int .i64 0,.int .i64 0,.int .i64 0,.int .i64 0,.int .i64 0,.slice none 0 0]) rfl)) (by kernel_rfl) (all_oneCell_toArray zEy) ?_
 have HQ:=mA (zDs Vh.out ((below_drewN (mG _ _) nq).drew.alloc (mC _) _) (Blk.new' (w:=(Wd.drewN nq).drew) (g:=Wd.heap.size) (t:=137) (cs:=#[.int .i64 0,.int .i64 0,.int .i64 0,.int .i64 0,.int .i64 0,.int .i64 0,.int .i64 0,.slice none 0 0]) rfl) (mC _))
 obtain ⟨W2,Ka⟩:=mJ ((((Wd.drewN nq).drew).alloc (.cells #[.int .i64 0,.int .i64 0,.int .i64 0,.int .i64 0,.int .i64 0,.int .i64 0,.int .i64 0,.slice none 0 0] 137)).setCells Wd.heap.size 0 [.int .i64 m.kind,.int .i64 m.from_,.int .i64 m.tq,.int .i64 m.view,.int .i64 m.normal,.int .i64 m.commit,.int .i64 m.n,.slice Al nl cl])
 have Hh:S W2:=by rw [Hd,Ka];rw [Hd] at Hc;exact zAh (mC _) _ 0 _ _ Hc
 rw [<- Ka] at HQ
 refine Ho _ _ ⟨by rw [Ka] at Hh;exact Hh,wpAnyH_done (by kernel_rfl) ?_ _⟩
 (try simp only [Act.put,zp1,zp2,zp3])
 change Exit.then _ _ _ _ ((((Wd.drewN nq).drew).alloc (.cells #[.int .i64 0,.int .i64 0,.int .i64 0,.int .i64 0,.int .i64 0,.int .i64 0,.int .i64 0,.slice none 0 0] 137)).setCells Wd.heap.size 0 [.int .i64 m.kind,.int .i64 m.from_,.int .i64 m.tq,.int .i64 m.view,.int .i64 m.normal,.int .i64 m.commit,.int .i64 m.n,.slice Al nl cl])
 rw [<- Ka]
 clear Ka Hh Hc Hd Hn Ho t0 t1 t2 t3 t4 t5 t6 t7
 obtain ⟨gm,Vi⟩:=mK (Wd.heap.size)
 have Kl:=mA (HN.out.below HQ.out.1)
 have Vj:=mA (Hm.out.trans (Fr.of HQ.out.1 (mD hb Hm.out.size)))
 have Kr:=mA HQ.out.2.1
 have Gi:=mA HQ.out.2.2
 have Gj:=mA HQ.out.1
 have b0:=cW HQ.out.1 al a0
 have b3:=cW HQ.out.1 al a3
 have b4:=cW HQ.out.1 al a4
 have c2:=cW HQ.out.1 dl d2
 have bl:w.heap.size < W2.heap.size:=mF al HQ.out.1.size
 have cl2:gx < W2.heap.size:=mF dl HQ.out.1.size
 have gml:Wd.heap.size < W2.heap.size:=Kr.out.lt
 have gfm:gf < Wd.heap.size:=Hl
 have wm:w.heap.size < Wd.heap.size:=al
 have gxm:gx < Wd.heap.size:=dl
 have Ks:w.heap.size≠gf:=zAo HB.out Vg (by decide)
 have Kt:w.heap.size≠gx:=zAo HB.out HN.out.box (by decide)
 rw [Vi] at Kr gml gfm wm gxm ⊢
 clear a0 a3 a4 d2 al dl HQ HN Hm HB Vh Vf Vi Hl Vg
 obtain ⟨fss,Km⟩:=Kl.out.fly
 have Hw:=mA Km
 have Ht:x.flying.length<=1000:=by omega
 have Gs:IntKind.i64.wrap ((k:Int)+1)=(k:Int)+1:=IntWalk.i64_in _ (by omega)
 clear Km
 go_wp2_with fail
 obtain ⟨S,Hd⟩:∃ S:World->Prop,S=fun w'=>w'.cell? ⟨gx,2,none⟩=some (.slice (some ⟨gf,0,none⟩) x.flying.length e2)/\w'.cell? ⟨w.heap.size,3,none⟩=some (.int .i64 (k:Int)):=⟨_,rfl⟩
 have Hc:S W2.drew:=by rw [Hd];exact ⟨c2,b3⟩
 refine zAq S 13 (by kernel_rfl) (fun Hu=>?_)
 change wpAnyE _ _ _ _ _ _ _ _ _ W2.drew
 refine tkEs 10 [0,1,2,3,4,5,6,7,8,9] (by kernel_rfl) (fun _ _ _ _ _ h=>h) Hu Hc ?_
 iterate 10
  refine tkc (v:=?_) rfl (Or.inl ⟨by rfl,?_⟩) ?_
  rotate_left
  ·(intro wv Ha;rw [Hd] at Ha;obtain ⟨s0,s1⟩:=Ha;go_simp;(try with_reducible rfl))
  (try simp only [Act.put,zp1,zp2,zp3])
 refine tkz (fun Hu=>?_)
 refine alE 10 (by kernel_rfl) (wpOp_step (o:=_) rfl fun KS Hp=>?_)
 go_simp
 refine (zJr gf e2 k x.flying fss W2.drew base (Hw.out.same (B:=0) (Ts:=[9,137]) (by simp) (Same.drew _) (fun _ _ h=>h.same (Ts:=[9]) (by simp) (Same.drew _))) hk Ht).mono ?_;rintro en w' ⟨rfl,Vk⟩
 have Hf:=(Kl.out.below ((mG W2.heap.size W2).drew.drew)).delFly (css:=fss) (Hw.out.same (B:=0) (Ts:=[9,137]) (by simp) ((Same.drew _).trans (Same.drew _)) (fun _ _ h=>h.same (Ts:=[9]) (by simp) ((Same.drew _).trans (Same.drew _)))) hk Vk
 have Ku:gx≠gf:=zAo Kl.out.box (zAw Hw.out.row).2.choose_spec (by decide)
 have Kv:w.heap.size≠gf:=by
  have h1:=Hw.out.lt gf rfl
  have h2:=(zAw Hw.out.row).2.choose_spec
  intro e
  exact Ks e
 have e2':w'.cell? ⟨gx,2,none⟩=some (.slice (some ⟨gf,0,none⟩) x.flying.length e2):=(Hf.2.2.2.1 ⟨gx,2,none⟩ Ku).trans c2
 have e3':w'.cell? ⟨w.heap.size,3,none⟩=some (.int .i64 (k:Int)):=(Hf.2.2.2.1 ⟨w.heap.size,3,none⟩ Kv).trans b3
 have ez:=Hf.2.2.1.frozen
 have el:=Hf.2.2.1.lt
 have Hc:S w':=by rw [Hd];exact ⟨e2',e3'⟩
 have Hg:=mA Hf
 clear Vk Hf
 refine Hp _ _ ⟨.inr Hc,?_⟩
 have Hu:=Hu.set (i:=10) (by rw [<- List.contains_iff_mem];kernel_rfl)
 (try simp only [Act.put,zp1,zp2,zp3])
 refine tkEs 10 [11,12] (by kernel_rfl) (fun _ _ _ _ _ h=>h) Hu Hc ?_
 iterate 2
  refine tkc (v:=?_) rfl (Or.inl ⟨by rfl,?_⟩) ?_
  rotate_left
  ·(intro wv Ha;rw [Hd] at Ha;obtain ⟨s0,s1⟩:=Ha;go_simp;(try with_reducible rfl))
  (try simp only [Act.put,zp1,zp2,zp3])
 refine tkz (fun Hu=>?_)
 refine alE 13 (by kernel_rfl) (wpOp_step (o:=_) rfl fun KU Vl=>?_)
 go_simp
 refine Vl _ _ ⟨.inl rfl,zAp (by kernel_rfl) ?_ _⟩
 (try simp only [Act.put,zp1,zp2,zp3])
 obtain ⟨Wd,Hz⟩:=mJ (w'.setCell ⟨gx,2,none⟩ (.slice (some ⟨gf,0,none⟩) (x.flying.length - 1) e2))
 change Exit.then _ _ _ _ (w'.setCell ⟨gx,2,none⟩ (.slice (some ⟨gf,0,none⟩) (x.flying.length - 1) e2))
 have HN:=mA Hg.out.1
 have Hm:=mA (Vj.out.trans (((Fr.refl base W2).drew.drew).trans Hg.out.2.1))
 have Hb:∀ q:Addr,q.block≠gf->q.block≠gx->(w'.setCell ⟨gx,2,none⟩ (.slice (some ⟨gf,0,none⟩) (x.flying.length - 1) e2)).cell? q=W2.cell? q:=fun q h1 h2=>(zAm h2).trans (Hg.out.2.2.2.1 q h1)
 have Hi:W2.heap.size<=(w'.setCell ⟨gx,2,none⟩ (.slice (some ⟨gf,0,none⟩) (x.flying.length - 1) e2)).heap.size:=Hg.out.2.1.size
 have Hv:Same [9] 0 W2 (w'.setCell ⟨gx,2,none⟩ (.slice (some ⟨gf,0,none⟩) (x.flying.length - 1) e2)):=(Same.drew _).trans ((Same.drew _).trans (Hg.out.2.1.2.mono (by simp) (mC _)))
 rw [<- Hz] at HN Hm Hb Hi Hv ⊢
 have Vm:w.heap.size≠gx:=Kt
 have Hq:gm≠gf:=by omega
 have Hr:gm≠gx:=by omega
 have mb:=Kr.out
 obtain ⟨p0,p1,p2,p3,p4,p5,p6,p7⟩:=cz8 mb
 have a0:=(Hb ⟨w.heap.size,0,none⟩ Kv Vm).trans b0
 have a4:=(Hb ⟨w.heap.size,4,none⟩ Kv Vm).trans b4
 have mm0:=(Hb ⟨gm,0,none⟩ Hq Hr).trans p0
 have mm1:=(Hb ⟨gm,1,none⟩ Hq Hr).trans p1
 have mm2:=(Hb ⟨gm,2,none⟩ Hq Hr).trans p2
 have mm3:=(Hb ⟨gm,3,none⟩ Hq Hr).trans p3
 have mm4:=(Hb ⟨gm,4,none⟩ Hq Hr).trans p4
 have mm5:=(Hb ⟨gm,5,none⟩ Hq Hr).trans p5
 have mm6:=(Hb ⟨gm,6,none⟩ Hq Hr).trans p6
 have mm7:=(Hb ⟨gm,7,none⟩ Hq Hr).trans p7
 have al:w.heap.size < Wd.heap.size:=by omega
 have ml:gm < Wd.heap.size:=by omega
 have Vn:=mA (Gi.out.same (Ts:=[9]) (by simp) Hv)
 clear Hz Hb Hi Hv mb p0 p1 p2 p3 p4 p5 p6 p7 b0 b3 b4 c2 Vl Hp Hc Hd Hu e2' e3' ez el Hg Hw Vj Kl Gj bl cl2 gml
 obtain ⟨r,hr⟩:∃ r:Nat,m.tq.toNat=r:=⟨_,rfl⟩
 have Kn:0<=m.tq/\m.tq < 3:=by rw [<- HM.out];exact Vc
 have Gk:=Kn.1
 have Gl:m.tq < (x.replicas.length:Int):=by rw [H3.out];exact Kn.2
 have Vo:m.tq < 3:=Kn.2
 have Kw:=mA (show ((r:Nat):Int)=m.tq by omega)
 have Vp:r < x.replicas.length:=by rw [H3.out];omega
 have Gt:r < 3:=by omega
 obtain ⟨gr,cr,lu0,Gu,wv0,gv0,nv0,er',Gm,Gn,Kb,He,-,curr,Go⟩:=HN.out.repAt (k:=r) Vp
 obtain ⟨rfl,rfl⟩:B0=some ⟨gr,0,none⟩/\e0=cr:=by cases er';exact ⟨rfl,rfl⟩
 obtain ⟨rk,Kx⟩:=mK (x.replicas[r])
 have Ky:=hd r Vp (by rw [HM.out];exact Kw.out)
 rw [HM.out,Kx] at Ky
 dsimp only at He Kb
 rw [Kx] at He Kb
 obtain ⟨F0,p0,q0,F1,q1,F2,q2,F3,q3,F4,q4,rfl,rfl,rfl,rfl,rfl⟩:=Kb.forms
 have Vq:=mA Kb
 have HD:=mA Ky
 have Vr:=mA (Vd r (by rw [HM.out];exact Kw.out))
 have d0:=cz1 HN.out.box
 have dl:=HN.out.box.lt
 have t0:Wd.cell? ⟨gr,m.tq.toNat*10,none⟩=some (.int .i64 rk.me):=by rw [hr];exact He 0 _ rfl
 have t1:Wd.cell? ⟨gr,m.tq.toNat*10+1,none⟩=some (.int .i64 rk.kept.view):=by rw [hr];exact He 1 _ rfl
 have t2:Wd.cell? ⟨gr,m.tq.toNat*10+2,none⟩=some (.int .i64 rk.kept.normal):=by rw [hr];exact He 2 _ rfl
 have t3:Wd.cell? ⟨gr,m.tq.toNat*10+3,none⟩=some (.bool rk.kept.calm):=by rw [hr];exact He 3 _ rfl
 have t4:Wd.cell? ⟨gr,m.tq.toNat*10+4,none⟩=some (.slice F0 p0 q0):=by rw [hr];exact He 4 _ rfl
 have t5:Wd.cell? ⟨gr,m.tq.toNat*10+5,none⟩=some (.int .i64 rk.kept.commit):=by rw [hr];exact He 5 _ rfl
 have t6:Wd.cell? ⟨gr,m.tq.toNat*10+6,none⟩=some (.slice F1 rk.have_.length q1):=by rw [hr];exact He 6 _ rfl
 have t7:Wd.cell? ⟨gr,m.tq.toNat*10+7,none⟩=some (.slice F2 rk.wants.length q2):=by rw [hr];exact He 7 _ rfl
 have t8:Wd.cell? ⟨gr,m.tq.toNat*10+8,none⟩=some (.slice F3 rk.gives.length q3):=by rw [hr];exact He 8 _ rfl
 have t9:Wd.cell? ⟨gr,m.tq.toNat*10+9,none⟩=some (.slice F4 rk.given.length q4):=by rw [hr];exact He 9 _ rfl
 have gl:gr < Wd.heap.size:=Gn
 have Gp:=mA (show (x.flying.eraseIdx k).length<=80 from mD (List.length_eraseIdx_le _ _) Vz)
 have HY:=mA (show (if fr≠0 then ({ x with flying:=x.flying.eraseIdx k },fr) else Scu.settle { x with flying:=x.flying.eraseIdx k } r rr ms (-1))=(y,f) from Vr.out)
 clear er' He Kb Kx Go Gm Ky hd Vc Vd Kn hr Vr
 go_wp2_with fail
 obtain ⟨S,Hd⟩:∃ S:World->Prop,S=fun w'=>Below Wd.heap.size Wd w':=⟨_,rfl⟩
 have Hc:S Wd.drew:=by rw [Hd];exact (mG _ _).drew
 refine wp_region_held (S:=S) (by kernel_rfl) ?_
 change wpAnyH _ _ _ _ _ _ _ _ Wd.drew
 have Kc:=fun (wv:World) (Ha:Below Wd.heap.size Wd wv)=>mB (cW Ha dl d0) (mB (cW Ha ml mm0) (mB (cW Ha ml mm1) (mB (cW Ha ml mm2) (mB (cW Ha ml mm3) (mB (cW Ha ml mm4) (mB (cW Ha ml mm5) (mB (cW Ha ml mm6) (mB (cW Ha ml mm7) (mB (cW Ha gl t0) (mB (cW Ha gl t1) (mB (cW Ha gl t2) (mB (cW Ha gl t3) (mB (cW Ha gl t4) (mB (cW Ha gl t5) (mB (cW Ha gl t6) (mB (cW Ha gl t7) (mB (cW Ha gl t8) (cW Ha gl t9))))))))))))))))))
 refine tkHs [0,1,2,3,4,5,6,7,8] (by kernel_rfl) (fun _ _ _ _ _ h=>h) Hc ?_
 iterate 9
  refine tkc (v:=?_) rfl (Or.inl ⟨by rfl,?_⟩) ?_
  rotate_left
  ·(intro wv Ha;rw [Hd] at Ha;obtain ⟨q0,q1,q2,q3,q4,q5,q6,q7,q8,s0,s1,s2,s3,s4,s5,s6,s7,s8,s9⟩:=Kc wv Ha;go_simp;(try with_reducible rfl))
  (try simp only [Act.put,zp1,zp2,zp3])
 refine tkz ?_
 refine wpAnyH_all (rs:=[9,14]) (by kernel_rfl) (by simp) ?_
 intro ii Vs
 simp only [List.mem_cons,List.not_mem_nil,or_false] at Vs
 rcases Vs with rfl | rfl
 case' inl =>
  refine wpOp_step (o:=_) rfl (fun KS Hp=>?_)
  go_simp
  have dd:Below Wd.heap.size Wd Wd.drew:=(mG _ _).drew
  refine (zQc _ _ _ _ _ _ rk m _ 0 (Vq.out.below dd) (Vn.out.below dd) rr ms fr HD.out).mono ?_;rintro en x1 ⟨⟨E0,m0,z0,E1,z1,E2,z2,E3,z3,E4,z4,Ao,co,rfl,Kd,Ke,Kf⟩,k1⟩
  have nn1:=dd.trans (k1.mono dd.size)
  have M1:=mA nn1
  have Hj:=mA (mB Kd (mB Ke (fun g hg=>mD dd.size (Kf g hg))))
  clear dd
  have Hc:S x1:=by rw [Hd];exact nn1
  refine Hp _ _ ⟨Hc,?_⟩
  clear Hp nn1 k1 Kd Ke Kf
  (try simp only [Act.put,zp1,zp2,zp3])
  refine tkHs [10,11,12,13] (by kernel_rfl) (fun _ _ _ _ _ h=>h) Hc ?_
  iterate 4
   refine tkc (v:=?_) rfl (Or.inl ⟨by rfl,?_⟩) ?_
   rotate_left
   ·(intro wv Ha;rw [Hd] at Ha;obtain ⟨q0,q1,q2,q3,q4,q5,q6,q7,q8,s0,s1,s2,s3,s4,s5,s6,s7,s8,s9⟩:=Kc wv Ha;go_simp;(try with_reducible rfl))
   (try simp only [Act.put,zp1,zp2,zp3])
  refine tkz ?_
  refine alH 14 (by kernel_rfl) (wpOp_step (o:=_) rfl fun KA Hn=>?_)
  go_simp
  have Hc:S (x1.alloc (.cells zR 49)):=by rw [Hd];exact M1.out.alloc M1.out.size _
  refine Hn _ _ ⟨Hc,?_⟩
  (try simp only [Act.put,zp1,zp2,zp3])
  refine alH 15 (by kernel_rfl) (wpOp_step (o:=_) rfl fun KB Ho=>?_)
  rw [if_pos (by rfl)]
  refine wp_store_mid 49 (.tmp 6) (.tmp 94) rfl x1.heap.size 0 (rN rr E0 m0 z0 E1 z1 E2 z2 E3 z3 E4 z4) rfl rfl (zAs (Blk.new x1 49 zR)) (by kernel_rfl) (all_oneCell_toArray (zCo Hj.out.1)) ?_
  have Hh:S ((x1.alloc (.cells zR 49)).setCells x1.heap.size 0 (rL rr E0 m0 z0 E1 z1 E2 z2 E3 z3 E4 z4)):=by rw [Hd] at Hc ⊢;exact zAh M1.out.size _ 0 _ _ Hc
  refine Ho _ _ ⟨Hh,?_⟩
  have Hc:=Hh
  (try simp only [Act.put,zp1,zp2,zp3])
  change wpAnyH _ _ _ _ _ _ _ _ ((x1.alloc (.cells zR 49)).setCells x1.heap.size 0 (rL rr E0 m0 z0 E1 z1 E2 z2 E3 z3 E4 z4))
  refine tkHs [16,17] (by kernel_rfl) (fun _ _ _ _ _ h=>h) Hc ?_
  iterate 2
   refine tkc (v:=?_) rfl (Or.inl ⟨by rfl,?_⟩) ?_
   rotate_left
   ·(intro wv Ha;rw [Hd] at Ha;obtain ⟨q0,q1,q2,q3,q4,q5,q6,q7,q8,s0,s1,s2,s3,s4,s5,s6,s7,s8,s9⟩:=Kc wv Ha;go_simp;(try with_reducible rfl))
   (try simp only [Act.put,zp1,zp2,zp3])
  refine tkz ?_
  refine wpAnyH_done (by kernel_rfl) ?_ _
  have HQ:=mA (zCe Hj.out.1 Hj.out.2.1 (M1.out.alloc M1.out.size _) (Blk.new x1 49 zR) M1.out.size (zAa x1 _))
  have Kg:=mA Hj.out.2.2
  obtain ⟨gb,Vt⟩:=mK (x1.heap.size)
  obtain ⟨W3,Kh⟩:=mJ ((x1.alloc (.cells zR 49)).setCells x1.heap.size 0 (rL rr E0 m0 z0 E1 z1 E2 z2 E3 z3 E4 z4))
  change Exit.then _ _ _ _ ((x1.alloc (.cells zR 49)).setCells x1.heap.size 0 (rL rr E0 m0 z0 E1 z1 E2 z2 E3 z3 E4 z4))
  rw [<- Kh] at HQ ⊢
  rw [Vt] at HQ ⊢
  clear Kh Vt Hc Hh Hd Hn Ho Hj
 case' inr =>
  refine wpOp_step (o:=_) rfl (fun KA Hn=>?_)
  go_simp
  have dd:Below Wd.heap.size Wd (Wd.drew.alloc (.cells zR 49)):=(mG _ _).drew.alloc (mC _) _
  have Hc:S (Wd.drew.alloc (.cells zR 49)):=by rw [Hd];exact dd
  refine Hn _ _ ⟨Hc,?_⟩
  (try simp only [Act.put,zp1,zp2,zp3])
  refine alH 9 (by kernel_rfl) (wpOp_step (o:=_) rfl fun KS Hp=>?_)
  go_simp
  refine (zQc _ _ _ _ _ _ rk m _ 0 (Vq.out.below dd) (Vn.out.below dd) rr ms fr HD.out).mono ?_;rintro en x1 ⟨⟨E0,m0,z0,E1,z1,E2,z2,E3,z3,E4,z4,Ao,co,rfl,Kd,Ke,Kf⟩,k1⟩
  have nn1:=dd.trans (k1.mono dd.size)
  have M1:=mA nn1
  have Hj:=mA (mB Kd (mB Ke (fun g hg=>mD dd.size (Kf g hg))))
  have HZ:=mA ((Blk.new' (w:=Wd.drew) (g:=Wd.heap.size) (t:=49) (cs:=zR) rfl).same k1)
  clear dd
  have Hc:S x1:=by rw [Hd];exact nn1
  refine Hp _ _ ⟨Hc,?_⟩
  clear Hp nn1 k1 Kd Ke Kf
  (try simp only [Act.put,zp1,zp2,zp3])
  refine tkHs [10,11,12,13] (by kernel_rfl) (fun _ _ _ _ _ h=>h) Hc ?_
  iterate 4
   refine tkc (v:=?_) rfl (Or.inl ⟨by rfl,?_⟩) ?_
   rotate_left
   ·(intro wv Ha;rw [Hd] at Ha;obtain ⟨q0,q1,q2,q3,q4,q5,q6,q7,q8,s0,s1,s2,s3,s4,s5,s6,s7,s8,s9⟩:=Kc wv Ha;go_simp;(try with_reducible rfl))
   (try simp only [Act.put,zp1,zp2,zp3])
  refine tkz ?_
  refine alH 15 (by kernel_rfl) (wpOp_step (o:=_) rfl fun KB Ho=>?_)
  rw [if_pos (by rfl)]
  refine wp_store_mid 49 (.tmp 6) (.tmp 94) rfl Wd.heap.size 0 (rN rr E0 m0 z0 E1 z1 E2 z2 E3 z3 E4 z4) rfl rfl (zAs HZ.out) (by kernel_rfl) (all_oneCell_toArray (zCo Hj.out.1)) ?_
  have Hh:S (x1.setCells Wd.heap.size 0 (rL rr E0 m0 z0 E1 z1 E2 z2 E3 z3 E4 z4)):=by rw [Hd] at Hc ⊢;exact zAh (mC _) _ 0 _ _ Hc
  refine Ho _ _ ⟨Hh,?_⟩
  have Hc:=Hh
  (try simp only [Act.put,zp1,zp2,zp3])
  change wpAnyH _ _ _ _ _ _ _ _ (x1.setCells Wd.heap.size 0 (rL rr E0 m0 z0 E1 z1 E2 z2 E3 z3 E4 z4))
  refine tkHs [16,17] (by kernel_rfl) (fun _ _ _ _ _ h=>h) Hc ?_
  iterate 2
   refine tkc (v:=?_) rfl (Or.inl ⟨by rfl,?_⟩) ?_
   rotate_left
   ·(intro wv Ha;rw [Hd] at Ha;obtain ⟨q0,q1,q2,q3,q4,q5,q6,q7,q8,s0,s1,s2,s3,s4,s5,s6,s7,s8,s9⟩:=Kc wv Ha;go_simp;(try with_reducible rfl))
   (try simp only [Act.put,zp1,zp2,zp3])
  refine tkz ?_
  refine wpAnyH_done (by kernel_rfl) ?_ _
  have HQ:=mA (zCe Hj.out.1 Hj.out.2.1 M1.out HZ.out (mC _) (mG _ _))
  have Kg:=mA Hj.out.2.2
  obtain ⟨W3,Kh⟩:=mJ (x1.setCells Wd.heap.size 0 (rL rr E0 m0 z0 E1 z1 E2 z2 E3 z3 E4 z4))
  change Exit.then _ _ _ _ (x1.setCells Wd.heap.size 0 (rL rr E0 m0 z0 E1 z1 E2 z2 E3 z3 E4 z4))
  rw [<- Kh] at HQ ⊢
  clear Kh Hc Hh Hd Hn Ho Hj HZ
 all_goals
  have a0':W3.cell? ⟨w.heap.size,0,none⟩=some (.int .i64 a.kind):=cW HQ.out.1 al a0
  have a4':W3.cell? ⟨w.heap.size,4,none⟩=some (.int .i64 a.n):=cW HQ.out.1 al a4
  have m2':W3.cell? ⟨gm,2,none⟩=some (.int .i64 m.tq):=cW HQ.out.1 ml mm2
  clear d0 a0 a4 t0 t1 t2 t3 t4 t5 t6 t7 t8 t9 mm0 mm1 mm2 mm3 mm4 mm5 mm6 mm7
  have Vu:=HN.out.below HQ.out.1
  have Vv:base<=W3.heap.size:=mD (mD hb Hm.out.size) HQ.out.1.size
  have Vw:=Hm.out.trans (Fr.of HQ.out.1 (mD hb Hm.out.size))
  have Ki:∀ g,(Value.slice Ao ms.length co).ownBlock=some g->(Value.slice (some ⟨gf,0,none⟩) (x.flying.length - 1) e2).ownBlock≠some g:=fun g hg e=>by
   have h1:=Kg.out g hg
   obtain ⟨_,Km⟩:=HN.out.fly
   have h2:=(Km.lt g e).2
   omega
  have Hx:=mA (mB Vu (mB Vv (mB Vw Ki)))
  have Hs:=HQ.out.2.1
  obtain ⟨b0,b1,b2,b3,b4,b5,b6,b7,b8,b9⟩:=cz10 Hs
  have bl:=Hs.lt
  clear Hs Vu Vv Vw Ki
  by_cases Ko:fr=0
  ·subst Ko
   have Kp:=mA (show Scu.settle ({ x with flying:=x.flying.eraseIdx k }) r rr ms (-1)=(y,f) by have h:=HY.out;rw [if_neg (by simp)] at h;exact h)
   go_wp2_with fail
   have Hk:=zDr r rr _ _ _ _ _ Ao co ms (-1) W3 base gx ({ x with flying:=x.flying.eraseIdx k }) _ _ _ _ _ Hx.out.1 Hx.out.2.1 (by rw [H3.out];omega) (by rw [Gf.out];omega) H3.out HQ.out.2.2.1 HQ.out.2.2.2 Hx.out.2.2.2 (Gp.out) y f Kp.out
   rw [Kw.out] at Hk
   refine Hk.mono ?_;clear Hk;rintro en w9 ⟨rfl,Vx,Vy⟩
   have H9:=mA (mB Vx (Hx.out.2.2.1.trans Vy))
   clear Vx Vy
   go_wp2
   go_ret
   exact ⟨rfl,H9.out.1,H9.out.2⟩
  ·have Gv:(fr != 0)=true:=by simpa using Ko
   have Kp:=mA (show y = { x with flying:=x.flying.eraseIdx k }/\f=fr by have h:=HY.out;rw [if_pos Ko] at h;exact ⟨(Prod.mk.inj h).1.symm,(Prod.mk.inj h).2.symm⟩)
   clear Ko
   go_wp2
   go_ret
   exact ⟨zAb (zAd Kp.out.2.symm),by rw [Kp.out.1];exact Hx.out.1.e,Hx.out.2.2.1⟩
theorem zWw (a:Scu.Act) (w:World) (base gx:Nat) (x:Scu.Net) (rv sv fv cv tv:Value) (hN:NetW w base gx x rv sv fv cv tv) (hb:base<=w.heap.size) (h3:x.replicas.length=3) (Kz:x.slots.length=3) (Vx:x.flying.length<=80) (k:Nat) (Kq:a.k=k) (hk:k < x.flying.length) (Hy:a.kind=10) (hn:¬ (a.n < 0\/4000 < a.n)) (Va:0<=x.flying[k].tq/\x.flying[k].tq < 3) (rr:Scu.Replica) (ms:List Scu.Message) (fr:Int)
 (hd:∀ (r:Nat) (hr:r < x.replicas.length),(r:Int)=x.flying[k].tq->Scu.hear x.replicas[r] x.flying[k]=(rr,ms,fr)) (y:Scu.Net) (f:Int) (Vb:∀ r:Nat,(r:Int)=x.flying[k].tq->(if fr≠0 then ({ x with flying:=x.flying.eraseIdx k },fr) else Scu.settle { x with flying:=x.flying.eraseIdx k } r rr ms a.n)=(y,f)) (hy:True):Calls Tryd.prog 46 #[.pointer (some ⟨gx,0,none⟩),.agg #[.int .i64 a.kind,.int .i64 a.c,.int .i64 a.r,.int .i64 a.k,.int .i64 a.n,.int .i64 a.op.kind,.int .i64 a.op.at_,.int .i64 a.op.snap,.string a.op.data]] w fun e w'=>e=.returned (.int .i64 f)/\NetE w' base gx y/\Fr base w w':=by
 have Vy:(a.kind == 8)=false:=by rw [beq_eq_false_iff_ne];omega
 have Vc:(a.kind == 10)=true:=by rw [beq_iff_eq];exact Hy
 have Vz:(a.kind == 7)=false:=by rw [beq_eq_false_iff_ne];omega
 have Ga:decide (a.n < 0)=false:=by rw [decide_eq_false_iff_not];omega
 have Gb:decide (4000 < a.n)=false:=by rw [decide_eq_false_iff_not];omega
 clear Hy hn
 have Gc:decide (a.k < 0)=false:=by rw [decide_eq_false_iff_not];omega
 have Gd:decide ((x.flying.length:Int)<=a.k)=false:=by rw [decide_eq_false_iff_not];omega
 rw [Kq] at Gc Gd
 have Ge:=mA Kq
 clear Kq
 obtain ⟨B0,e0,B1,e1,B2,e2,B3,e3,B4,e4,rfl,rfl,rfl,rfl,rfl⟩:=hN.forms
 have Kj:=zAa w (.cells (aN a) 40)
 have HN:=mA (hN.below Kj)
 have HB:=mA (Blk.new w 40 (aN a))
 have Hm:=mA (Fr.of Kj hb)
 have Vd:=mA Kj
 have H3:=mA h3
 have Gf:=mA Kz
 have HY:=mA hy
 clear hN h3 Kz Kj hy
 go_enter Tryd.func46,Tryd.ntmps46
 go_upto_region 1 with fail
 obtain ⟨Wd,Hz⟩:=mJ (w.alloc (.cells (aN a) 40))
 rw [<- Hz] at HN HB Hm Vd ⊢
 clear Hz
 have Hs:=HB.out
 obtain ⟨a0,-,-,a3,a4⟩:=cz5 Hs
 obtain ⟨-,-,d2⟩:=cz3 HN.out.box
 have al:=Hs.lt
 have dl:=HN.out.box.lt
 clear Hs
 rw [Ge.out] at a3
 obtain ⟨gf,cf,lu,ef,Gq,Hl,Kk,He,-,curf,Ve⟩:=HN.out.flyAt hk
 obtain ⟨rfl,rfl⟩:B2=some ⟨gf,0,none⟩/\e2=cf:=by cases ef;exact ⟨rfl,rfl⟩
 obtain ⟨Al,nl,cl,rfl⟩:=Kk.form
 obtain ⟨m,hm⟩:=mK (x.flying[k])
 rw [hm] at Kk He
 have t0:Wd.cell? ⟨gf,k*8,none⟩=some (.int .i64 m.kind):=He 0 _ rfl
 have t1:Wd.cell? ⟨gf,k*8+1,none⟩=some (.int .i64 m.from_):=He 1 _ rfl
 have t2:Wd.cell? ⟨gf,k*8+2,none⟩=some (.int .i64 m.tq):=He 2 _ rfl
 have t3:Wd.cell? ⟨gf,k*8+3,none⟩=some (.int .i64 m.view):=He 3 _ rfl
 have t4:Wd.cell? ⟨gf,k*8+4,none⟩=some (.int .i64 m.normal):=He 4 _ rfl
 have t5:Wd.cell? ⟨gf,k*8+5,none⟩=some (.int .i64 m.commit):=He 5 _ rfl
 have t6:Wd.cell? ⟨gf,k*8+6,none⟩=some (.int .i64 m.n):=He 6 _ rfl
 have t7:Wd.cell? ⟨gf,k*8+7,none⟩=some (.slice Al nl cl):=He 7 _ rfl
 have Gr:(k:Int) < (x.flying.length:Int):=by omega
 have Vf:=mA Kk
 have HM:=mA hm
 clear ef He Kk hm
 go_wp2_with fail
 go_quiet (fail)
 go_wp2_with fail
 obtain ⟨S,Hd⟩:∃ S:World->Prop,S=fun w'=>Below Wd.heap.size Wd w':=⟨_,rfl⟩
 have Hc:S ((Wd.drewN nq).drew):=by rw [Hd];exact (below_drewN (mG _ _) nq).drew
 refine wp_region_held (S:=S) (by kernel_rfl) ?_
 change wpAnyH _ _ _ _ _ _ _ _ ((Wd.drewN nq).drew)
 have Gg:=fun (wv:World) (Ha:Below Wd.heap.size Wd wv)=>mB (cW Ha dl d2) (mB (cW Ha al a3) (mB (cW Ha Hl t0) (mB (cW Ha Hl t1) (mB (cW Ha Hl t2) (mB (cW Ha Hl t3) (mB (cW Ha Hl t4) (mB (cW Ha Hl t5) (mB (cW Ha Hl t6) (cW Ha Hl t7)))))))))
 refine tkHs [0,1,2,3,4,5,6,7] (by kernel_rfl) (fun _ _ _ _ _ h=>h) Hc ?_
 iterate 8
  refine tkc (v:=?_) rfl (Or.inl ⟨by rfl,?_⟩) ?_
  rotate_left
  ·(intro wv Ha;rw [Hd] at Ha;obtain ⟨q0,q1,s0,s1,s2,s3,s4,s5,s6,s7⟩:=Gg wv Ha;go_simp;(try with_reducible rfl))
  (try simp only [Act.put,zp1,zp2,zp3])
 refine tkz ?_
 refine alH 8 (by kernel_rfl) (wpOp_step (o:=_) rfl fun KA Hn=>?_)
 go_simp
 have Hc:S (((Wd.drewN nq).drew).alloc (.cells #[.int .i64 0,.int .i64 0,.int .i64 0,.int .i64 0,.int .i64 0,.int .i64 0,.int .i64 0,.slice none 0 0] 137)):=by rw [Hd];exact ((below_drewN (mG _ _) nq).drew).alloc (mC _) _
 refine Hn _ _ ⟨Hc,?_⟩
 (try simp only [Act.put,zp1,zp2,zp3])
 refine alH 9 (by kernel_rfl) (wpOp_step (o:=_) rfl fun KB Ho=>?_)
 rw [if_pos (by rfl)]
 refine wp_store_mid 137 (.tmp 5) (.tmp 30) rfl Wd.heap.size 0 (mN m Al nl cl) rfl rfl (zAs (Blk.new' (w:=(Wd.drewN nq).drew) (g:=Wd.heap.size) (t:=137) (cs:=#[.int .i64 0,.int .i64 0,.int .i64 0,.int .i64 0,.int .i64 0,.int .i64 0,.int .i64 0,.slice none 0 0]) rfl)) (by kernel_rfl) (all_oneCell_toArray zEy) ?_
 have HQ:=mA (zDs Vf.out ((below_drewN (mG _ _) nq).drew.alloc (mC _) _) (Blk.new' (w:=(Wd.drewN nq).drew) (g:=Wd.heap.size) (t:=137) (cs:=#[.int .i64 0,.int .i64 0,.int .i64 0,.int .i64 0,.int .i64 0,.int .i64 0,.int .i64 0,.slice none 0 0]) rfl) (mC _))
 obtain ⟨W2,Ka⟩:=mJ ((((Wd.drewN nq).drew).alloc (.cells #[.int .i64 0,.int .i64 0,.int .i64 0,.int .i64 0,.int .i64 0,.int .i64 0,.int .i64 0,.slice none 0 0] 137)).setCells Wd.heap.size 0 [.int .i64 m.kind,.int .i64 m.from_,.int .i64 m.tq,.int .i64 m.view,.int .i64 m.normal,.int .i64 m.commit,.int .i64 m.n,.slice Al nl cl])
 have Hh:S W2:=by rw [Hd,Ka];rw [Hd] at Hc;exact zAh (mC _) _ 0 _ _ Hc
 rw [<- Ka] at HQ
 refine Ho _ _ ⟨by rw [Ka] at Hh;exact Hh,wpAnyH_done (by kernel_rfl) ?_ _⟩
 (try simp only [Act.put,zp1,zp2,zp3])
 change Exit.then _ _ _ _ ((((Wd.drewN nq).drew).alloc (.cells #[.int .i64 0,.int .i64 0,.int .i64 0,.int .i64 0,.int .i64 0,.int .i64 0,.int .i64 0,.slice none 0 0] 137)).setCells Wd.heap.size 0 [.int .i64 m.kind,.int .i64 m.from_,.int .i64 m.tq,.int .i64 m.view,.int .i64 m.normal,.int .i64 m.commit,.int .i64 m.n,.slice Al nl cl])
 rw [<- Ka]
 clear Ka Hh Hc Hd Hn Ho t0 t1 t2 t3 t4 t5 t6 t7
 obtain ⟨gm,Vg⟩:=mK (Wd.heap.size)
 have Kl:=mA (HN.out.below HQ.out.1)
 have Vh:=mA (Hm.out.trans (Fr.of HQ.out.1 (mD hb Hm.out.size)))
 have Kr:=mA HQ.out.2.1
 have Gi:=mA HQ.out.2.2
 have Gj:=mA HQ.out.1
 have b0:=cW HQ.out.1 al a0
 have b3:=cW HQ.out.1 al a3
 have b4:=cW HQ.out.1 al a4
 have c2:=cW HQ.out.1 dl d2
 have bl:w.heap.size < W2.heap.size:=mF al HQ.out.1.size
 have cl2:gx < W2.heap.size:=mF dl HQ.out.1.size
 have gml:Wd.heap.size < W2.heap.size:=Kr.out.lt
 have gfm:gf < Wd.heap.size:=Hl
 have wm:w.heap.size < Wd.heap.size:=al
 have gxm:gx < Wd.heap.size:=dl
 have Ks:w.heap.size≠gf:=zAo HB.out Ve (by decide)
 have Kt:w.heap.size≠gx:=zAo HB.out HN.out.box (by decide)
 rw [Vg] at Kr gml gfm wm gxm ⊢
 clear a0 a3 a4 d2 al dl HQ HN Hm HB Vf Vd Vg Hl Ve
 obtain ⟨fss,Km⟩:=Kl.out.fly
 have Hw:=mA Km
 have Ht:x.flying.length<=1000:=by omega
 have Gs:IntKind.i64.wrap ((k:Int)+1)=(k:Int)+1:=IntWalk.i64_in _ (by omega)
 clear Km
 go_wp2_with fail
 obtain ⟨S,Hd⟩:∃ S:World->Prop,S=fun w'=>w'.cell? ⟨gx,2,none⟩=some (.slice (some ⟨gf,0,none⟩) x.flying.length e2)/\w'.cell? ⟨w.heap.size,3,none⟩=some (.int .i64 (k:Int)):=⟨_,rfl⟩
 have Hc:S W2.drew:=by rw [Hd];exact ⟨c2,b3⟩
 refine zAq S 13 (by kernel_rfl) (fun Hu=>?_)
 change wpAnyE _ _ _ _ _ _ _ _ _ W2.drew
 refine tkEs 10 [0,1,2,3,4,5,6,7,8,9] (by kernel_rfl) (fun _ _ _ _ _ h=>h) Hu Hc ?_
 iterate 10
  refine tkc (v:=?_) rfl (Or.inl ⟨by rfl,?_⟩) ?_
  rotate_left
  ·(intro wv Ha;rw [Hd] at Ha;obtain ⟨s0,s1⟩:=Ha;go_simp;(try with_reducible rfl))
  (try simp only [Act.put,zp1,zp2,zp3])
 refine tkz (fun Hu=>?_)
 refine alE 10 (by kernel_rfl) (wpOp_step (o:=_) rfl fun KS Hp=>?_)
 go_simp
 refine (zJr gf e2 k x.flying fss W2.drew base (Hw.out.same (B:=0) (Ts:=[9,137]) (by simp) (Same.drew _) (fun _ _ h=>h.same (Ts:=[9]) (by simp) (Same.drew _))) hk Ht).mono ?_;rintro en w' ⟨rfl,Vi⟩
 have Hf:=(Kl.out.below ((mG W2.heap.size W2).drew.drew)).delFly (css:=fss) (Hw.out.same (B:=0) (Ts:=[9,137]) (by simp) ((Same.drew _).trans (Same.drew _)) (fun _ _ h=>h.same (Ts:=[9]) (by simp) ((Same.drew _).trans (Same.drew _)))) hk Vi
 have Ku:gx≠gf:=zAo Kl.out.box (zAw Hw.out.row).2.choose_spec (by decide)
 have Kv:w.heap.size≠gf:=by
  have h1:=Hw.out.lt gf rfl
  have h2:=(zAw Hw.out.row).2.choose_spec
  intro e
  exact Ks e
 have e2':w'.cell? ⟨gx,2,none⟩=some (.slice (some ⟨gf,0,none⟩) x.flying.length e2):=(Hf.2.2.2.1 ⟨gx,2,none⟩ Ku).trans c2
 have e3':w'.cell? ⟨w.heap.size,3,none⟩=some (.int .i64 (k:Int)):=(Hf.2.2.2.1 ⟨w.heap.size,3,none⟩ Kv).trans b3
 have ez:=Hf.2.2.1.frozen
 have el:=Hf.2.2.1.lt
 have Hc:S w':=by rw [Hd];exact ⟨e2',e3'⟩
 have Hg:=mA Hf
 clear Vi Hf
 refine Hp _ _ ⟨.inr Hc,?_⟩
 have Hu:=Hu.set (i:=10) (by rw [<- List.contains_iff_mem];kernel_rfl)
 (try simp only [Act.put,zp1,zp2,zp3])
 refine tkEs 10 [11,12] (by kernel_rfl) (fun _ _ _ _ _ h=>h) Hu Hc ?_
 iterate 2
  refine tkc (v:=?_) rfl (Or.inl ⟨by rfl,?_⟩) ?_
  rotate_left
  ·(intro wv Ha;rw [Hd] at Ha;obtain ⟨s0,s1⟩:=Ha;go_simp;(try with_reducible rfl))
  (try simp only [Act.put,zp1,zp2,zp3])
 refine tkz (fun Hu=>?_)
 refine alE 13 (by kernel_rfl) (wpOp_step (o:=_) rfl fun KU Vj=>?_)
 go_simp
 refine Vj _ _ ⟨.inl rfl,zAp (by kernel_rfl) ?_ _⟩
 (try simp only [Act.put,zp1,zp2,zp3])
 obtain ⟨Wd,Hz⟩:=mJ (w'.setCell ⟨gx,2,none⟩ (.slice (some ⟨gf,0,none⟩) (x.flying.length - 1) e2))
 change Exit.then _ _ _ _ (w'.setCell ⟨gx,2,none⟩ (.slice (some ⟨gf,0,none⟩) (x.flying.length - 1) e2))
 have HN:=mA Hg.out.1
 have Hm:=mA (Vh.out.trans (((Fr.refl base W2).drew.drew).trans Hg.out.2.1))
 have Hb:∀ q:Addr,q.block≠gf->q.block≠gx->(w'.setCell ⟨gx,2,none⟩ (.slice (some ⟨gf,0,none⟩) (x.flying.length - 1) e2)).cell? q=W2.cell? q:=fun q h1 h2=>(zAm h2).trans (Hg.out.2.2.2.1 q h1)
 have Hi:W2.heap.size<=(w'.setCell ⟨gx,2,none⟩ (.slice (some ⟨gf,0,none⟩) (x.flying.length - 1) e2)).heap.size:=Hg.out.2.1.size
 have Hv:Same [9] 0 W2 (w'.setCell ⟨gx,2,none⟩ (.slice (some ⟨gf,0,none⟩) (x.flying.length - 1) e2)):=(Same.drew _).trans ((Same.drew _).trans (Hg.out.2.1.2.mono (by simp) (mC _)))
 rw [<- Hz] at HN Hm Hb Hi Hv ⊢
 have Vk:w.heap.size≠gx:=Kt
 have Hq:gm≠gf:=by omega
 have Hr:gm≠gx:=by omega
 have mb:=Kr.out
 obtain ⟨p0,p1,p2,p3,p4,p5,p6,p7⟩:=cz8 mb
 have a0:=(Hb ⟨w.heap.size,0,none⟩ Kv Vk).trans b0
 have a4:=(Hb ⟨w.heap.size,4,none⟩ Kv Vk).trans b4
 have mm0:=(Hb ⟨gm,0,none⟩ Hq Hr).trans p0
 have mm1:=(Hb ⟨gm,1,none⟩ Hq Hr).trans p1
 have mm2:=(Hb ⟨gm,2,none⟩ Hq Hr).trans p2
 have mm3:=(Hb ⟨gm,3,none⟩ Hq Hr).trans p3
 have mm4:=(Hb ⟨gm,4,none⟩ Hq Hr).trans p4
 have mm5:=(Hb ⟨gm,5,none⟩ Hq Hr).trans p5
 have mm6:=(Hb ⟨gm,6,none⟩ Hq Hr).trans p6
 have mm7:=(Hb ⟨gm,7,none⟩ Hq Hr).trans p7
 have al:w.heap.size < Wd.heap.size:=by omega
 have ml:gm < Wd.heap.size:=by omega
 have Vl:=mA (Gi.out.same (Ts:=[9]) (by simp) Hv)
 clear Hz Hb Hi Hv mb p0 p1 p2 p3 p4 p5 p6 p7 b0 b3 b4 c2 Vj Hp Hc Hd Hu e2' e3' ez el Hg Hw Vh Kl Gj bl cl2 gml
 obtain ⟨r,hr⟩:∃ r:Nat,m.tq.toNat=r:=⟨_,rfl⟩
 have Kn:0<=m.tq/\m.tq < 3:=by rw [<- HM.out];exact Va
 have Gk:=Kn.1
 have Gl:m.tq < (x.replicas.length:Int):=by rw [H3.out];exact Kn.2
 have Vm:m.tq < 3:=Kn.2
 have Kw:=mA (show ((r:Nat):Int)=m.tq by omega)
 have Vn:r < x.replicas.length:=by rw [H3.out];omega
 have Gt:r < 3:=by omega
 obtain ⟨gr,cr,lu0,Gu,wv0,gv0,nv0,er',Gm,Gn,Kb,He,-,curr,Go⟩:=HN.out.repAt (k:=r) Vn
 obtain ⟨rfl,rfl⟩:B0=some ⟨gr,0,none⟩/\e0=cr:=by cases er';exact ⟨rfl,rfl⟩
 obtain ⟨rk,Kx⟩:=mK (x.replicas[r])
 have Ky:=hd r Vn (by rw [HM.out];exact Kw.out)
 rw [HM.out,Kx] at Ky
 dsimp only at He Kb
 rw [Kx] at He Kb
 obtain ⟨F0,p0,q0,F1,q1,F2,q2,F3,q3,F4,q4,rfl,rfl,rfl,rfl,rfl⟩:=Kb.forms
 have Vo:=mA Kb
 have HD:=mA Ky
 have Vp:=mA (Vb r (by rw [HM.out];exact Kw.out))
 have d0:=cz1 HN.out.box
 have dl:=HN.out.box.lt
 have t0:Wd.cell? ⟨gr,m.tq.toNat*10,none⟩=some (.int .i64 rk.me):=by rw [hr];exact He 0 _ rfl
 have t1:Wd.cell? ⟨gr,m.tq.toNat*10+1,none⟩=some (.int .i64 rk.kept.view):=by rw [hr];exact He 1 _ rfl
 have t2:Wd.cell? ⟨gr,m.tq.toNat*10+2,none⟩=some (.int .i64 rk.kept.normal):=by rw [hr];exact He 2 _ rfl
 have t3:Wd.cell? ⟨gr,m.tq.toNat*10+3,none⟩=some (.bool rk.kept.calm):=by rw [hr];exact He 3 _ rfl
 have t4:Wd.cell? ⟨gr,m.tq.toNat*10+4,none⟩=some (.slice F0 p0 q0):=by rw [hr];exact He 4 _ rfl
 have t5:Wd.cell? ⟨gr,m.tq.toNat*10+5,none⟩=some (.int .i64 rk.kept.commit):=by rw [hr];exact He 5 _ rfl
 have t6:Wd.cell? ⟨gr,m.tq.toNat*10+6,none⟩=some (.slice F1 rk.have_.length q1):=by rw [hr];exact He 6 _ rfl
 have t7:Wd.cell? ⟨gr,m.tq.toNat*10+7,none⟩=some (.slice F2 rk.wants.length q2):=by rw [hr];exact He 7 _ rfl
 have t8:Wd.cell? ⟨gr,m.tq.toNat*10+8,none⟩=some (.slice F3 rk.gives.length q3):=by rw [hr];exact He 8 _ rfl
 have t9:Wd.cell? ⟨gr,m.tq.toNat*10+9,none⟩=some (.slice F4 rk.given.length q4):=by rw [hr];exact He 9 _ rfl
 have gl:gr < Wd.heap.size:=Gn
 have Gp:=mA (show (x.flying.eraseIdx k).length<=80 from mD (List.length_eraseIdx_le _ _) Vx)
 have HY:=mA (show (if fr≠0 then ({ x with flying:=x.flying.eraseIdx k },fr) else Scu.settle { x with flying:=x.flying.eraseIdx k } r rr ms (a.n))=(y,f) from Vp.out)
 clear er' He Kb Kx Go Gm Ky hd Va Vb Kn hr Vp
 go_wp2_with fail
 obtain ⟨S,Hd⟩:∃ S:World->Prop,S=fun w'=>Below Wd.heap.size Wd w':=⟨_,rfl⟩
 have Hc:S Wd.drew:=by rw [Hd];exact (mG _ _).drew
 refine wp_region_held (S:=S) (by kernel_rfl) ?_
 change wpAnyH _ _ _ _ _ _ _ _ Wd.drew
 have Kc:=fun (wv:World) (Ha:Below Wd.heap.size Wd wv)=>mB (cW Ha dl d0) (mB (cW Ha ml mm0) (mB (cW Ha ml mm1) (mB (cW Ha ml mm2) (mB (cW Ha ml mm3) (mB (cW Ha ml mm4) (mB (cW Ha ml mm5) (mB (cW Ha ml mm6) (mB (cW Ha ml mm7) (mB (cW Ha gl t0) (mB (cW Ha gl t1) (mB (cW Ha gl t2) (mB (cW Ha gl t3) (mB (cW Ha gl t4) (mB (cW Ha gl t5) (mB (cW Ha gl t6) (mB (cW Ha gl t7) (mB (cW Ha gl t8) (cW Ha gl t9))))))))))))))))))
 refine tkHs [0,1,2,3,4,5,6,7,8] (by kernel_rfl) (fun _ _ _ _ _ h=>h) Hc ?_
 iterate 9
  refine tkc (v:=?_) rfl (Or.inl ⟨by rfl,?_⟩) ?_
  rotate_left
  ·(intro wv Ha;rw [Hd] at Ha;obtain ⟨q0,q1,q2,q3,q4,q5,q6,q7,q8,s0,s1,s2,s3,s4,s5,s6,s7,s8,s9⟩:=Kc wv Ha;go_simp;(try with_reducible rfl))
  (try simp only [Act.put,zp1,zp2,zp3])
 refine tkz ?_
 refine wpAnyH_all (rs:=[9,14]) (by kernel_rfl) (by simp) ?_
 intro ii Vq
 simp only [List.mem_cons,List.not_mem_nil,or_false] at Vq
 rcases Vq with rfl | rfl
 case' inl =>
  refine wpOp_step (o:=_) rfl (fun KS Hp=>?_)
  go_simp
  have dd:Below Wd.heap.size Wd Wd.drew:=(mG _ _).drew
  refine (zQc _ _ _ _ _ _ rk m _ 0 (Vo.out.below dd) (Vl.out.below dd) rr ms fr HD.out).mono ?_;rintro en x1 ⟨⟨E0,m0,z0,E1,z1,E2,z2,E3,z3,E4,z4,Ao,co,rfl,Kd,Ke,Kf⟩,k1⟩
  have nn1:=dd.trans (k1.mono dd.size)
  have M1:=mA nn1
  have Hj:=mA (mB Kd (mB Ke (fun g hg=>mD dd.size (Kf g hg))))
  clear dd
  have Hc:S x1:=by rw [Hd];exact nn1
  refine Hp _ _ ⟨Hc,?_⟩
  clear Hp nn1 k1 Kd Ke Kf
  (try simp only [Act.put,zp1,zp2,zp3])
  refine tkHs [10,11,12,13] (by kernel_rfl) (fun _ _ _ _ _ h=>h) Hc ?_
  iterate 4
   refine tkc (v:=?_) rfl (Or.inl ⟨by rfl,?_⟩) ?_
   rotate_left
   ·(intro wv Ha;rw [Hd] at Ha;obtain ⟨q0,q1,q2,q3,q4,q5,q6,q7,q8,s0,s1,s2,s3,s4,s5,s6,s7,s8,s9⟩:=Kc wv Ha;go_simp;(try with_reducible rfl))
   (try simp only [Act.put,zp1,zp2,zp3])
  refine tkz ?_
  refine alH 14 (by kernel_rfl) (wpOp_step (o:=_) rfl fun KA Hn=>?_)
  go_simp
  have Hc:S (x1.alloc (.cells zR 49)):=by rw [Hd];exact M1.out.alloc M1.out.size _
  refine Hn _ _ ⟨Hc,?_⟩
  (try simp only [Act.put,zp1,zp2,zp3])
  refine alH 15 (by kernel_rfl) (wpOp_step (o:=_) rfl fun KB Ho=>?_)
  rw [if_pos (by rfl)]
  refine wp_store_mid 49 (.tmp 6) (.tmp 94) rfl x1.heap.size 0 (rN rr E0 m0 z0 E1 z1 E2 z2 E3 z3 E4 z4) rfl rfl (zAs (Blk.new x1 49 zR)) (by kernel_rfl) (all_oneCell_toArray (zCo Hj.out.1)) ?_
  have Hh:S ((x1.alloc (.cells zR 49)).setCells x1.heap.size 0 (rL rr E0 m0 z0 E1 z1 E2 z2 E3 z3 E4 z4)):=by rw [Hd] at Hc ⊢;exact zAh M1.out.size _ 0 _ _ Hc
  refine Ho _ _ ⟨Hh,?_⟩
  have Hc:=Hh
  (try simp only [Act.put,zp1,zp2,zp3])
  change wpAnyH _ _ _ _ _ _ _ _ ((x1.alloc (.cells zR 49)).setCells x1.heap.size 0 (rL rr E0 m0 z0 E1 z1 E2 z2 E3 z3 E4 z4))
  refine tkHs [16,17] (by kernel_rfl) (fun _ _ _ _ _ h=>h) Hc ?_
  iterate 2
   refine tkc (v:=?_) rfl (Or.inl ⟨by rfl,?_⟩) ?_
   rotate_left
   ·(intro wv Ha;rw [Hd] at Ha;obtain ⟨q0,q1,q2,q3,q4,q5,q6,q7,q8,s0,s1,s2,s3,s4,s5,s6,s7,s8,s9⟩:=Kc wv Ha;go_simp;(try with_reducible rfl))
   (try simp only [Act.put,zp1,zp2,zp3])
  refine tkz ?_
  refine wpAnyH_done (by kernel_rfl) ?_ _
  have HQ:=mA (zCe Hj.out.1 Hj.out.2.1 (M1.out.alloc M1.out.size _) (Blk.new x1 49 zR) M1.out.size (zAa x1 _))
  have Kg:=mA Hj.out.2.2
  obtain ⟨gb,Vr⟩:=mK (x1.heap.size)
  obtain ⟨W3,Kh⟩:=mJ ((x1.alloc (.cells zR 49)).setCells x1.heap.size 0 (rL rr E0 m0 z0 E1 z1 E2 z2 E3 z3 E4 z4))
  change Exit.then _ _ _ _ ((x1.alloc (.cells zR 49)).setCells x1.heap.size 0 (rL rr E0 m0 z0 E1 z1 E2 z2 E3 z3 E4 z4))
  rw [<- Kh] at HQ ⊢
  rw [Vr] at HQ ⊢
  clear Kh Vr Hc Hh Hd Hn Ho Hj
 case' inr =>
  refine wpOp_step (o:=_) rfl (fun KA Hn=>?_)
  go_simp
  have dd:Below Wd.heap.size Wd (Wd.drew.alloc (.cells zR 49)):=(mG _ _).drew.alloc (mC _) _
  have Hc:S (Wd.drew.alloc (.cells zR 49)):=by rw [Hd];exact dd
  refine Hn _ _ ⟨Hc,?_⟩
  (try simp only [Act.put,zp1,zp2,zp3])
  refine alH 9 (by kernel_rfl) (wpOp_step (o:=_) rfl fun KS Hp=>?_)
  go_simp
  refine (zQc _ _ _ _ _ _ rk m _ 0 (Vo.out.below dd) (Vl.out.below dd) rr ms fr HD.out).mono ?_;rintro en x1 ⟨⟨E0,m0,z0,E1,z1,E2,z2,E3,z3,E4,z4,Ao,co,rfl,Kd,Ke,Kf⟩,k1⟩
  have nn1:=dd.trans (k1.mono dd.size)
  have M1:=mA nn1
  have Hj:=mA (mB Kd (mB Ke (fun g hg=>mD dd.size (Kf g hg))))
  have HZ:=mA ((Blk.new' (w:=Wd.drew) (g:=Wd.heap.size) (t:=49) (cs:=zR) rfl).same k1)
  clear dd
  have Hc:S x1:=by rw [Hd];exact nn1
  refine Hp _ _ ⟨Hc,?_⟩
  clear Hp nn1 k1 Kd Ke Kf
  (try simp only [Act.put,zp1,zp2,zp3])
  refine tkHs [10,11,12,13] (by kernel_rfl) (fun _ _ _ _ _ h=>h) Hc ?_
  iterate 4
   refine tkc (v:=?_) rfl (Or.inl ⟨by rfl,?_⟩) ?_
   rotate_left
   ·(intro wv Ha;rw [Hd] at Ha;obtain ⟨q0,q1,q2,q3,q4,q5,q6,q7,q8,s0,s1,s2,s3,s4,s5,s6,s7,s8,s9⟩:=Kc wv Ha;go_simp;(try with_reducible rfl))
   (try simp only [Act.put,zp1,zp2,zp3])
  refine tkz ?_
  refine alH 15 (by kernel_rfl) (wpOp_step (o:=_) rfl fun KB Ho=>?_)
  rw [if_pos (by rfl)]
  refine wp_store_mid 49 (.tmp 6) (.tmp 94) rfl Wd.heap.size 0 (rN rr E0 m0 z0 E1 z1 E2 z2 E3 z3 E4 z4) rfl rfl (zAs HZ.out) (by kernel_rfl) (all_oneCell_toArray (zCo Hj.out.1)) ?_
  have Hh:S (x1.setCells Wd.heap.size 0 (rL rr E0 m0 z0 E1 z1 E2 z2 E3 z3 E4 z4)):=by rw [Hd] at Hc ⊢;exact zAh (mC _) _ 0 _ _ Hc
  refine Ho _ _ ⟨Hh,?_⟩
  have Hc:=Hh
  (try simp only [Act.put,zp1,zp2,zp3])
  change wpAnyH _ _ _ _ _ _ _ _ (x1.setCells Wd.heap.size 0 (rL rr E0 m0 z0 E1 z1 E2 z2 E3 z3 E4 z4))
  refine tkHs [16,17] (by kernel_rfl) (fun _ _ _ _ _ h=>h) Hc ?_
  iterate 2
   refine tkc (v:=?_) rfl (Or.inl ⟨by rfl,?_⟩) ?_
   rotate_left
   ·(intro wv Ha;rw [Hd] at Ha;obtain ⟨q0,q1,q2,q3,q4,q5,q6,q7,q8,s0,s1,s2,s3,s4,s5,s6,s7,s8,s9⟩:=Kc wv Ha;go_simp;(try with_reducible rfl))
   (try simp only [Act.put,zp1,zp2,zp3])
  refine tkz ?_
  refine wpAnyH_done (by kernel_rfl) ?_ _
  have HQ:=mA (zCe Hj.out.1 Hj.out.2.1 M1.out HZ.out (mC _) (mG _ _))
  have Kg:=mA Hj.out.2.2
  obtain ⟨W3,Kh⟩:=mJ (x1.setCells Wd.heap.size 0 (rL rr E0 m0 z0 E1 z1 E2 z2 E3 z3 E4 z4))
  change Exit.then _ _ _ _ (x1.setCells Wd.heap.size 0 (rL rr E0 m0 z0 E1 z1 E2 z2 E3 z3 E4 z4))
  rw [<- Kh] at HQ ⊢
  clear Kh Hc Hh Hd Hn Ho Hj HZ
 all_goals
  have a0':W3.cell? ⟨w.heap.size,0,none⟩=some (.int .i64 a.kind):=cW HQ.out.1 al a0
  have a4':W3.cell? ⟨w.heap.size,4,none⟩=some (.int .i64 a.n):=cW HQ.out.1 al a4
  have m2':W3.cell? ⟨gm,2,none⟩=some (.int .i64 m.tq):=cW HQ.out.1 ml mm2
  clear d0 a0 a4 t0 t1 t2 t3 t4 t5 t6 t7 t8 t9 mm0 mm1 mm2 mm3 mm4 mm5 mm6 mm7
  have Vs:=HN.out.below HQ.out.1
  have Vt:base<=W3.heap.size:=mD (mD hb Hm.out.size) HQ.out.1.size
  have Vu:=Hm.out.trans (Fr.of HQ.out.1 (mD hb Hm.out.size))
  have Ki:∀ g,(Value.slice Ao ms.length co).ownBlock=some g->(Value.slice (some ⟨gf,0,none⟩) (x.flying.length - 1) e2).ownBlock≠some g:=fun g hg e=>by
   have h1:=Kg.out g hg
   obtain ⟨_,Km⟩:=HN.out.fly
   have h2:=(Km.lt g e).2
   omega
  have Hx:=mA (mB Vs (mB Vt (mB Vu Ki)))
  have Hs:=HQ.out.2.1
  obtain ⟨b0,b1,b2,b3,b4,b5,b6,b7,b8,b9⟩:=cz10 Hs
  have bl:=Hs.lt
  clear Hs Vs Vt Vu Ki
  by_cases Ko:fr=0
  ·subst Ko
   have Kp:=mA (show Scu.settle ({ x with flying:=x.flying.eraseIdx k }) r rr ms (a.n)=(y,f) by have h:=HY.out;rw [if_neg (by simp)] at h;exact h)
   go_wp2_with fail
   have Hk:=zDr r rr _ _ _ _ _ Ao co ms (a.n) W3 base gx ({ x with flying:=x.flying.eraseIdx k }) _ _ _ _ _ Hx.out.1 Hx.out.2.1 (by rw [H3.out];omega) (by rw [Gf.out];omega) H3.out HQ.out.2.2.1 HQ.out.2.2.2 Hx.out.2.2.2 (Gp.out) y f Kp.out
   rw [Kw.out] at Hk
   refine Hk.mono ?_;clear Hk;rintro en w9 ⟨rfl,Vv,Vw⟩
   have H9:=mA (mB Vv (Hx.out.2.2.1.trans Vw))
   clear Vv Vw
   go_wp2
   go_ret
   exact ⟨rfl,H9.out.1,H9.out.2⟩
  ·have Gv:(fr != 0)=true:=by simpa using Ko
   have Kp:=mA (show y = { x with flying:=x.flying.eraseIdx k }/\f=fr by have h:=HY.out;rw [if_pos Ko] at h;exact ⟨(Prod.mk.inj h).1.symm,(Prod.mk.inj h).2.symm⟩)
   clear Ko
   go_wp2
   go_ret
   exact ⟨zAb (zAd Kp.out.2.symm),by rw [Kp.out.1];exact Hx.out.1.e,Hx.out.2.2.1⟩
theorem zIl (a:Scu.Act) (w:World) (base gx:Nat) (x:Scu.Net) (rv sv fv cv tv:Value) (hN:NetW w base gx x rv sv fv cv tv) (hb:base<=w.heap.size) (h3:x.replicas.length=3) (Hd:x.slots.length=3) (He:x.flying.length<=80) (Hg:∀ m ∈ x.flying,0<=m.tq/\m.tq < 3) (y:Scu.Net) (f:Int) (hy:Scu.actMessage x a=(y,f)):Calls Tryd.prog 46 #[.pointer (some ⟨gx,0,none⟩),.agg #[.int .i64 a.kind,.int .i64 a.c,.int .i64 a.r,.int .i64 a.k,.int .i64 a.n,.int .i64 a.op.kind,.int .i64 a.op.at_,.int .i64 a.op.snap,.string a.op.data]] w fun e w'=>e=.returned (.int .i64 f)/\NetE w' base gx y/\Fr base w w':=by
 unfold Scu.actMessage at hy
 by_cases hk:a.k < 0\/(x.flying.length:Int)<=a.k
 ·rw [if_pos hk] at hy
  exact zWq a w base gx x rv sv fv cv tv hN hb h3 Hd He hk y f ⟨(Prod.mk.inj hy).1.symm,(Prod.mk.inj hy).2.symm⟩
 rw [if_neg hk] at hy
 obtain ⟨k,Hb⟩:=Int.eq_ofNat_of_zero_le (show 0<=a.k by omega)
 have Hc:k < x.flying.length:=by omega
 have hm:x.flying.getD a.k.toNat Scu.msg0=x.flying[k]:=by rw [Hb,Int.toNat_natCast,mI,mH Hc];rfl
 rw [hm] at hy
 rw [Hb,Int.toNat_natCast] at hy
 dsimp only at hy
 by_cases h8:a.kind=8
 ·rw [if_pos h8] at hy
  by_cases h80e:x.flying.length=80
  ·rw [if_pos h80e] at hy
   exact zWr a w base gx x rv sv fv cv tv hN hb h3 Hd He k Hb Hc h8 h80e y f ⟨(Prod.mk.inj hy).1.symm,(Prod.mk.inj hy).2.symm⟩
  rw [if_neg h80e] at hy
  exact zWs a w base gx x rv sv fv cv tv hN hb h3 Hd He k Hb Hc h8 (by omega) y f ⟨(Prod.mk.inj hy).1.symm,(Prod.mk.inj hy).2.symm⟩
 rw [if_neg h8] at hy
 by_cases h10:a.kind=10/\(a.n < 0\/4000 < a.n)
 ·rw [if_pos h10] at hy
  exact zWt a w base gx x rv sv fv cv tv hN hb h3 Hd He k Hb Hc h10.1 h10.2 y f ⟨(Prod.mk.inj hy).1.symm,(Prod.mk.inj hy).2.symm⟩
 rw [if_neg h10] at hy
 by_cases h7:a.kind=7
 ·rw [if_pos h7] at hy
  exact zWu a w base gx x rv sv fv cv tv hN hb h3 Hd He k Hb Hc h7 y f ⟨(Prod.mk.inj hy).1.symm,(Prod.mk.inj hy).2.symm⟩
 rw [if_neg h7] at hy
 have Hf:=Hg x.flying[k] (List.getElem_mem Hc)
 obtain ⟨r,hr⟩:=Int.eq_ofNat_of_zero_le Hf.1
 have Hh:r < x.replicas.length:=by omega
 rw [hr,Int.toNat_natCast,show x.replicas.getD r Scu.replica0=x.replicas[r] by rw [mI,mH Hh];rfl] at hy
 have hd:∀ (r':Nat) (Hi:r' < x.replicas.length),(r':Int)=x.flying[k].tq->Scu.hear x.replicas[r'] x.flying[k]=((Scu.hear x.replicas[r] x.flying[k]).1,(Scu.hear x.replicas[r] x.flying[k]).2.1,(Scu.hear x.replicas[r] x.flying[k]).2.2):=fun r' Hi e=>by
  obtain rfl:r'=r:=by omega
  rfl
 by_cases Ha:a.kind=10
 ·rw [if_pos Ha] at hy
  exact zWw a w base gx x rv sv fv cv tv hN hb h3 Hd He k Hb Hc Ha (fun h=>h10 ⟨Ha,h⟩) Hf _ _ _ hd y f (fun r' e=>by
   obtain rfl:r'=r:=by omega
   exact hy) trivial
 rw [if_neg Ha] at hy
 exact zWv a w base gx x rv sv fv cv tv hN hb h3 Hd He k Hb Hc h7 h8 Ha Hf _ _ _ hd y f (fun r' e=>by
  obtain rfl:r'=r:=by omega
  exact hy) trivial
end Go.Proofs.YtnpphdaakookcaaDoor
