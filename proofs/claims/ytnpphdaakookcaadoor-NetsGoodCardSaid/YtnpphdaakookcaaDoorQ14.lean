/- Part 14: words and walks under the laws of the whole. -/
import Derived.Test.YtnpphdaakookcaaDoorQ13
set_option linter.unusedVariables false
set_option linter.unusedSimpArgs false
set_option maxHeartbeats 4000000
set_option maxRecDepth 100000
namespace Go.Proofs.YtnpphdaakookcaaDoor
open Go.RowKit
theorem zTb (w:World) (base gw gr:Nat) (r:Scu.Replica) (v:Int) (lu hv wv gv nv ov:Value) (ms:List Scu.Message) (css:List (List Value)) (hW:Work w base gw gr r lu hv wv gv nv ov ms css) (Hb:base<=w.heap.size) (h3:Rep3 r) (hm:(ms.length+4)*80<=R47) :
 Calls Tryd.prog 82 #[.pointer (some ⟨gw,0,none⟩),.int .i64 v] w fun e w'=>e=.returned (.tuple #[])/\(∃ lu' Hr wv' gv' nv' ov' css',Work w' base gw gr (Scu.want r v).1 lu' Hr wv' gv' nv' ov' (ms ++ (Scu.want r v).2) css'/\Far w w' ov ov')/\Below base w w':=by
 have hN:=(hW.set_view v).set_calm false
 have hL:=(hW.low 1 (.int .i64 v)).trans ((hW.set_view v).low 3 (.bool false))
 have hF:Far w ((w.setCell ⟨gr,1,none⟩ (.int .i64 v)).setCell ⟨gr,3,none⟩ (.bool false)) ov ov:=Far.same (Ts:=[137]) (by simp) ((Same.set_ hW.rb (mE _) (by decide) 1 _).trans (Same.set_ (hW.set_view v).rb (mE _) (by decide) 3 _))
 have HN:=mA (mB hN (mB hL hF))
 have H3:=mA h3
 have HM:=mA hm
 have d0:=cz1 hW.wb
 obtain ⟨-,d1,-,d3⟩:=cz4 hW.rb
 have dz:=hW.rb.frozen
 have dl:=hW.wb.lt
 have dm:=hW.rb.lt
 clear hW hN hL h3 hm hF
 go_enter Tryd.func82,Tryd.ntmps82
 go_wp2_with fail
 go_region
 obtain ⟨W1,Hg⟩:=mJ (((w.setCell ⟨gr,1,none⟩ (.int .i64 v)).setCell ⟨gr,3,none⟩ (.bool false)).drew)
 rw [<- Hg]
 have He:=mA (show Work W1 base gw gr { r with kept:={ r.kept with view:=v,calm:=false } } lu hv wv gv nv ov ms css/\Below base w W1/\Far w W1 ov ov from by rw [Hg];exact ⟨HN.out.1.below (mG _ _).drew,HN.out.2.1.drew,HN.out.2.2.trans (Far.below (mG _ _).drew)⟩)
 have Hh:base<=W1.heap.size:=mD Hb He.out.2.1.size
 clear Hg HN d0 d1 d3 dz dl dm
 go_wp2_with fail
 refine (zOq W1 base gw gr _ lu hv wv gv nv ov ms css He.out.1 Hh H3.out.1 H3.out.2.1 H3.out.2.2.2.1).mono ?_;rintro en w2 ⟨rfl,⟨gv2,Ha⟩,Hi,Hc⟩
 obtain ⟨g2,c2,rfl⟩:=ones3f Ha.own.own.wants rfl
 have Hl:=He.out.2.2.trans (Far.same (by simp) Hc:Far W1 w2 ov ov)
 obtain ⟨hb,⟨cur,hB⟩,hc,hf,Hs⟩:=ones3' Ha.own.own.wants rfl
 have Ht:0<=r.me:=H3.out.2.2.2.2.1
 have Hu:r.me < 3:=H3.out.2.2.2.2.2
 have hN:=Ha.put_wants hB hb r.me.toNat true
 have Hm:Far w (w2.setCell ⟨g2,r.me.toNat,none⟩ (.bool true)) ov ov:=Hl.trans (Far.same (Ts:=[137]) (by simp) (Same.set_ hB (mE _) (by decide) _ _))
 have d0:=Ha.wb.cell 0
 have d3:=Ha.rb.cell 3
 have d7:=Ha.rb.cell 7
 have dme:w2.cell? ⟨gr,0,none⟩=some (.int .i64 r.me):=Ha.rb.cell 0
 simp only [List.getElem?_toArray,List.getElem?_cons_zero,List.getElem?_cons_succ] at d0 d3 d7
 have dz:=hf r.me.toNat
 obtain ⟨u,hu⟩:=Option.isSome_iff_exists.1 (hc r.me.toNat (by omega))
 have dl:=Ha.wb.lt
 have dm:=Ha.rb.lt
 have Hn:base<=w2.heap.size:=mD Hh Hi.size
 have Hd:=mA (mB hN (mB (He.out.2.1.trans Hi) (mB Hn Hm)))
 clear Ha hB hc hf Hs hN Hi hb Hh Hn Hc Hl Hm
 go_wp2_with fail
 go_region
 obtain ⟨W3,Hj⟩:=mJ ((w2.setCell ⟨g2,r.me.toNat,none⟩ (.bool true)).drew)
 rw [<- Hj]
 have Hf:=mA (show Work W3 base gw gr (Scu.want r v).1 lu hv (.slice (some ⟨g2,0,none⟩) 3 c2) gv2 nv ov ms css/\Below base w W3/\Far w W3 ov ov from by rw [Hj];exact ⟨Hd.out.1.1.below (mG _ _).drew,(Hd.out.2.1.trans Hd.out.1.2.1).drew,Hd.out.2.2.2.trans (Far.below (mG _ _).drew)⟩)
 have Hv:base<=W3.heap.size:=mD Hb Hf.out.2.1.size
 clear Hj Hd d0 d3 d7 dme dz dl dm hu
 go_wp2_with fail
 refine (yBp 3 W3 base gw gr _ lu hv (.slice (some ⟨g2,0,none⟩) 3 c2) gv2 nv ov ms css Hf.out.1 Hv HM.out).mono ?_;rintro en w4 ⟨rfl,⟨ov4,css4,Ho,Hp⟩,Hq⟩
 have Hk:=mA (mB Ho (mB (Hf.out.2.2.trans Hp) (Hf.out.2.1.trans Hq)))
 clear Ho Hq Hp
 go_wp2
 go_end0
 exact ⟨rfl,⟨_,_,_,_,_,_,_,Hk.out.1,Hk.out.2.1⟩,Hk.out.2.2⟩
theorem yAo (w:World) (base gw gr:Nat) (r:Scu.Replica) (v:Int) (ms:List Scu.Message) (hW:WorkE w base gw gr r ms) (Ha:base<=w.heap.size) (h3:Rep3 r) (hm:(ms.length+4)*80<=R47) :
 Calls Tryd.prog 82 #[.pointer (some ⟨gw,0,none⟩),.int .i64 v] w fun e w'=>e=.returned (.tuple #[])/\WorkE w' base gw gr (Scu.want r v).1 (ms ++ (Scu.want r v).2)/\Below base w w':=by
 obtain ⟨lu,hv,wv,gv,nv,ov,css,hW⟩:=hW
 refine (zTb w base gw gr r v lu hv wv gv nv ov ms css hW Ha h3 hm).mono ?_
 rintro e w' ⟨h1,⟨_,_,_,_,_,_,_,h2,_⟩,h3⟩
 exact ⟨h1,h2.e,h3⟩
def TellRet (w:World) (r:Scu.Replica) (ms:List Scu.Message) (c:Int) (e:Ending):Prop:=∃ lu hv wv gv nv ov,e=.returned (.tuple #[.agg #[.int .i64 r.me,.int .i64 r.kept.view,.int .i64 r.kept.normal,.bool r.kept.calm,lu,.int .i64 r.kept.commit,hv,wv,gv,nv],ov,.int .i64 c])/\IsRep w 0 lu hv wv gv nv r/\IsRow 137 8 80 MsgE w 0 ov ms
theorem zTc (w:World) (c:Int):TellRet w Scu.replica0 [] c (.returned (.tuple #[.agg #[.int .i64 0,.int .i64 0,.int .i64 0,.bool false,.slice none 0 0,.int .i64 0,.slice none 0 0,.slice none 0 0,.slice none 0 0,.slice none 0 0],.slice none 0 0,.int .i64 c])):=by
 exact ⟨_,_,_,_,_,_,rfl,⟨IsStrs.nil_,⟨⟨none,0,rfl,mC _,Rd.nil⟩,by simp [Scu.replica0,R47]⟩,⟨⟨none,0,rfl,mC _,Rd.nil⟩,by simp [Scu.replica0,R47]⟩,IsRow.nil_,⟨⟨none,0,rfl,mC _,Rd.nil⟩,by simp [Scu.replica0,R47]⟩⟩,IsRow.nil_⟩
def TellN (b:Nat) (w:World) (r:Scu.Replica) (ms:List Scu.Message) (c:Int) (e:Ending):Prop:=∃ lu hv wv gv nv ov,e=.returned (.tuple #[.agg #[.int .i64 r.me,.int .i64 r.kept.view,.int .i64 r.kept.normal,.bool r.kept.calm,lu,.int .i64 r.kept.commit,hv,wv,gv,nv],ov,.int .i64 c])/\IsRep w 0 lu hv wv gv nv r/\IsRow 137 8 80 MsgE w 0 ov ms/\∀ g,ov.ownBlock=some g->b<=g
theorem zBj (b:Nat) (w:World) (c:Int):TellN b w Scu.replica0 [] c (.returned (.tuple #[.agg #[.int .i64 0,.int .i64 0,.int .i64 0,.bool false,.slice none 0 0,.int .i64 0,.slice none 0 0,.slice none 0 0,.slice none 0 0,.slice none 0 0],.slice none 0 0,.int .i64 c])):=by
 obtain ⟨a1,a2,a3,a4,a5,a6,h1,h2,h3⟩:=zTc w c
 refine ⟨a1,a2,a3,a4,a5,a6,h1,h2,h3,fun g hg=>?_⟩
 simp only [Ending.returned.injEq,Value.tuple.injEq,Array.mk.injEq,List.cons.injEq] at h1
 obtain ⟨_,h1,_⟩:=h1
 subst h1
 cases hg
theorem zDb (lv hv wv gv nv:Value) (r:Scu.Replica) (h0:0<=r.kept.view) (w:World) (b:Bool) (hb:Scu.leads r=b) :
 Calls Tryd.prog 25 #[.agg #[.int .i64 r.me,.int .i64 r.kept.view,.int .i64 r.kept.normal,.bool r.kept.calm,lv,.int .i64 r.kept.commit,hv,wv,gv,nv]] w fun e w'=>e=.returned (.bool b)/\Below w.heap.size w w':=by
 subst hb
 exact zLr lv hv wv gv nv r h0 w
theorem zEn {r:Scu.Replica} (h:Scu.repFault r=0):Rep3 r:=by
 obtain ⟨h1,h2,h3,h4,h5,_⟩:=Scu.repFault_ok h
 exact ⟨h2,h3,h4,h5,h1.1,h1.2⟩
theorem zBh {r:Scu.Replica} (h:Scu.repFault r=0):0<=r.kept.view:=(Scu.keptFault_ok (Scu.repFault_ok h).2.2.2.2.2.2.2).1
theorem yAp (lv hv wv gv nv:Value) (r:Scu.Replica) (w:World) (B:Nat) (hr:IsRep w B lv hv wv gv nv r) (f:Int) (hf:Scu.repFault r=f) (hn:f≠0) :
 Calls Tryd.prog 67 #[.agg #[.int .i64 r.me,.int .i64 r.kept.view,.int .i64 r.kept.normal,.bool r.kept.calm,lv,.int .i64 r.kept.commit,hv,wv,gv,nv]] w fun e w'=>TellN w.heap.size w' Scu.replica0 [] f e/\Below w.heap.size w w':=by
 have Ha:(f != 0)=true:=by simpa using hn
 have HN:=mA hn
 clear hn
 have HV:=mA hr
 have HF:=mA hf
 obtain ⟨A0,n0,c0,A1,c1,A2,c2,A3,c3,A4,c4,rfl,rfl,rfl,rfl,rfl⟩:=hr.forms
 clear hr hf
 go_enter Tryd.func67,Tryd.ntmps67
 go_wp2_with fail
 have h0:Below w.heap.size w ((w.alloc (.cells (rN r A0 n0 c0 A1 c1 A2 c2 A3 c3 A4 c4) 49)).alloc (.cells zR 49)):=(zAa w _).alloc (by simp) _
 refine (zLv _ _ _ _ _ r _ B (HV.out.below h0) f HF.out HN.out).mono ?_;rintro en w1 ⟨rfl,h1⟩
 have hz:Blk w1 (w.heap.size+1) 49 zR:=(Blk.new' (by simp)).same h1
 have hb:=h0.trans (h1.mono h0.size)
 obtain ⟨z0,z1,z2,z3,z4,z5,z6,z7,z8,z9⟩:=cz10 hz
 have zz:=hz.frozen
 have zl:=hz.lt
 have hr:=zAr (a0:=.int .i64 0) (a1:=.int .i64 0) (a2:=.int .i64 0) (a3:=.bool false) (a4:=.slice none 0 0) (a5:=.int .i64 0) (a6:=.slice none 0 0) (a7:=.slice none 0 0) (a8:=.slice none 0 0) (a9:=.slice none 0 0) hz
 obtain ⟨r0,r1,r2,r3,r4,r5,r6,r7,r8,r9⟩:=cz10 hr
 have rz:=hr.frozen
 have rl:=hr.lt
 clear h1 h0
 go_wp2
 refine bodyPost_ret (v:=.tuple #[.agg zR,.slice none 0 0,.int .i64 f]) (by simp [results,Tryd.results67,go_sem,r0,r1,r2,r3,r4,r5,r6,r7,r8,r9]) rfl ?_
 exact ⟨zBj _ _ _,zAf hb (by omega)⟩
theorem yAq (lv hv wv gv nv:Value) (r:Scu.Replica) (w:World) (B:Nat) (hr:IsRep w B lv hv wv gv nv r) (hf:Scu.repFault r=0) (hl:Scu.leads r=true) (ms:List Scu.Message) (Hh:Scu.leadOn r=ms) :
 Calls Tryd.prog 67 #[.agg #[.int .i64 r.me,.int .i64 r.kept.view,.int .i64 r.kept.normal,.bool r.kept.calm,lv,.int .i64 r.kept.commit,hv,wv,gv,nv]] w fun e w'=>TellN w.heap.size w' r ms 0 e/\Below w.heap.size w w':=by
 have Hj:=mA Hh
 clear Hh
 have Hk:=zBh hf
 have HL:=mA hl
 clear hl
 have HV:=mA hr
 have HF:=mA hf
 obtain ⟨A0,n0,c0,A1,c1,A2,c2,A3,c3,A4,c4,rfl,rfl,rfl,rfl,rfl⟩:=hr.forms
 clear hr hf
 go_enter Tryd.func67,Tryd.ntmps67
 go_wp2_with fail
 have h0:Below w.heap.size w ((w.alloc (.cells (rN r A0 n0 c0 A1 c1 A2 c2 A3 c3 A4 c4) 49)).alloc (.cells zR 49)):=(zAa w _).alloc (by simp) _
 refine (zCa _ _ _ _ _ r _ B (HV.out.below h0) HF.out).mono ?_;rintro en w1 ⟨⟨gw,gr,lu,hu,wu,gu,nu,rfl,hW,_⟩,h1⟩
 have e2:((w.alloc (.cells (rN r A0 n0 c0 A1 c1 A2 c2 A3 c3 A4 c4) 49)).alloc (.cells zR 49)).heap.size=w.heap.size+2:=by simp
 rw [e2] at hW
 have hs:Blk w1 w.heap.size 49 (rN r A0 n0 c0 A1 c1 A2 c2 A3 c3 A4 c4):=((Blk.new w _ _).alloc _).same h1
 have hz:Blk w1 (w.heap.size+1) 49 zR:=(Blk.new' (by simp)).same h1
 have hb:=h0.trans (h1.mono h0.size)
 have Hc:w.heap.size+2<=w1.heap.size:=by have:=h1.size;rw [e2] at this;exact this
 obtain ⟨s0,s1,s2,s3,s4,s5,s6,s7,s8,s9⟩:=cz10 hs
 have sz:=hs.frozen
 have sl:=hs.lt
 have H1:=mA (mB hW (mB hs (mB hz (mB hb Hc))))
 clear h1 h0 hs hz hb hW e2 Hc HF
 go_wp2_with fail
 refine (zDb _ _ _ _ _ r Hk _ true HL.out).mono ?_;rintro en w2 ⟨rfl,h2⟩
 have hW:=H1.out.1.below h2
 have hs:=H1.out.2.1.same h2
 have hz:=H1.out.2.2.1.same h2
 have hb:=H1.out.2.2.2.1.trans (h2.mono H1.out.2.2.2.1.size)
 have Hc:w.heap.size+2<=w2.heap.size:=mD H1.out.2.2.2.2 h2.size
 have H2:=mA (mB hW (mB hs (mB hz (mB hb Hc))))
 clear s0 s1 s2 s3 s4 s5 s6 s7 s8 s9 sz sl
 clear hs hz hb hW h2 Hc
 go_wp2_with fail
 refine (zHx _ (w.heap.size+2) gw gr r [] H2.out.1.e H2.out.2.2.2.2 (by simp [R47])).mono ?_;rintro en w3 ⟨rfl,Ha,h3⟩
 rw [List.nil_append,Hj.out] at Ha
 have Hb:Blk w3 (w.heap.size+1) 49 zR:=H2.out.2.2.1.below h3 (by omega)
 have Hi:Below w.heap.size w w3:=H2.out.2.2.2.1.trans (h3.mono (by omega))
 clear h3
 obtain ⟨lu3,Hl,wv3,gv3,nv3,ov3,css3,Ha⟩:=Ha
 obtain ⟨Ao,co,rfl⟩:=Ha.out.form
 obtain ⟨E0,m0,d0,E1,d1,E2,d2,E3,d3,E4,d4,rfl,rfl,rfl,rfl,rfl⟩:=Ha.own.is.forms
 have Hf:=Ha.wb
 have Hg:=Ha.rb
 obtain ⟨f0,f1⟩:=cz2 Hf
 have fl:=Hf.lt
 obtain ⟨k0,k1,k2,k3,k4,k5,k6,k7,k8,k9⟩:=cz10 Hg
 have kz:=Hg.frozen
 have kl:=Hg.lt
 obtain ⟨z0,z1,z2,z3,z4,z5,z6,z7,z8,z9⟩:=cz10 Hb
 have zz:=Hb.frozen
 have zl:=Hb.lt
 have hr:=zAr (a0:=.int .i64 r.me) (a1:=.int .i64 r.kept.view) (a2:=.int .i64 r.kept.normal) (a3:=.bool r.kept.calm) (a4:=.slice E0 m0 d0) (a5:=.int .i64 r.kept.commit) (a6:=.slice E1 r.have_.length d1) (a7:=.slice E2 r.wants.length d2) (a8:=.slice E3 r.gives.length d3) (a9:=.slice E4 r.given.length d4) Hb
 have Hd:=Same.sets10 (Ts:=[9,3,4,44,137,151]) (B:=0) (a0:=.int .i64 r.me) (a1:=.int .i64 r.kept.view) (a2:=.int .i64 r.kept.normal) (a3:=.bool r.kept.calm) (a4:=.slice E0 m0 d0) (a5:=.int .i64 r.kept.commit) (a6:=.slice E1 r.have_.length d1) (a7:=.slice E2 r.wants.length d2) (a8:=.slice E3 r.gives.length d3) (a9:=.slice E4 r.given.length d4) Hb (mE _) (by decide)
 have He:=zAc Hf Hd (by simp)
 obtain ⟨q0,q1⟩:=cz2 He
 have hT:=Ha.own.is.same (Hd.mono (by simp) (mC _))
 have hO:=Ha.out.is.same (Ts:=[9,137]) (by simp) (Hd.mono (by simp) (mC _)) (fun _ _ h=>h.same (Ts:=[9,137]) (by simp) (Hd.mono (by simp) (mC _)))
 have hL:=zAf (a0:=.int .i64 r.me) (a1:=.int .i64 r.kept.view) (a2:=.int .i64 r.kept.normal) (a3:=.bool r.kept.calm) (a4:=.slice E0 m0 d0) (a5:=.int .i64 r.kept.commit) (a6:=.slice E1 r.have_.length d1) (a7:=.slice E2 r.wants.length d2) (a8:=.slice E3 r.gives.length d3) (a9:=.slice E4 r.given.length d4) Hi (show w.heap.size<=w.heap.size+1 by omega)
 obtain ⟨r0,r1,r2,r3,r4,r5,r6,r7,r8,r9⟩:=cz10 hr
 have rz:=hr.frozen
 have rl:=hr.lt
 have hA:∀ g,(Value.slice Ao ms.length co).ownBlock=some g->w.heap.size<=g:=fun g hg=>by have:=(Ha.out.row.lt g hg).1;omega
 have HT:=mA (mB hT (mB hO (mB hL hA)))
 clear hr Hd hT hO hL Hf Hg Ha Hb Hi He hA
 go_wp2_with fail
 go_region
 go_wp2
 refine bodyPost_ret (v:=.tuple #[.agg (rN r E0 m0 d0 E1 d1 E2 d2 E3 d3 E4 d4),.slice Ao ms.length co,.int .i64 0]) (by simp [results,Tryd.results67,go_sem,r0,r1,r2,r3,r4,r5,r6,r7,r8,r9]) rfl ?_
 exact ⟨⟨_,_,_,_,_,_,rfl,HT.out.1.same (Same.drew _),HT.out.2.1.same (Ts:=[9,137]) (by simp) (Same.drew _) (fun _ _ h=>h.same (Ts:=[9]) (by simp) (Same.drew _)),HT.out.2.2.2⟩,HT.out.2.2.1.drew⟩
theorem yAr (lv hv wv gv nv:Value) (r:Scu.Replica) (w:World) (B:Nat) (hr:IsRep w B lv hv wv gv nv r) (hf:Scu.repFault r=0) (hl:Scu.leads r=false) (hc:r.kept.calm=true) (ms:List Scu.Message)
 (Hi : [(⟨2,r.me,Scu.leader r.kept.view,r.kept.view,0,0,r.kept.log.length,[]⟩:Scu.Message)]=ms) :
 Calls Tryd.prog 67 #[.agg #[.int .i64 r.me,.int .i64 r.kept.view,.int .i64 r.kept.normal,.bool r.kept.calm,lv,.int .i64 r.kept.commit,hv,wv,gv,nv]] w fun e w'=>TellN w.heap.size w' r ms 0 e/\Below w.heap.size w w':=by
 have Hm:=mA Hi
 have Hj:r.kept.view % 3≠r.me:=by
  intro e
  unfold Scu.leads Scu.leader at hl
  simp [hc,e] at hl
 have Hn:=mA Hj
 have Ho:=mA hc
 clear Hi Hj hc
 have Hk:=zBh hf
 have HL:=mA hl
 clear hl
 have HV:=mA hr
 have HF:=mA hf
 obtain ⟨A0,n0,c0,A1,c1,A2,c2,A3,c3,A4,c4,rfl,rfl,rfl,rfl,rfl⟩:=hr.forms
 clear hr hf
 go_enter Tryd.func67,Tryd.ntmps67
 go_wp2_with fail
 have h0:Below w.heap.size w ((w.alloc (.cells (rN r A0 n0 c0 A1 c1 A2 c2 A3 c3 A4 c4) 49)).alloc (.cells zR 49)):=(zAa w _).alloc (by simp) _
 refine (zCa _ _ _ _ _ r _ B (HV.out.below h0) HF.out).mono ?_;rintro en w1 ⟨⟨gw,gr,lu,hu,wu,gu,nu,rfl,hW,_⟩,h1⟩
 have e2:((w.alloc (.cells (rN r A0 n0 c0 A1 c1 A2 c2 A3 c3 A4 c4) 49)).alloc (.cells zR 49)).heap.size=w.heap.size+2:=by simp
 rw [e2] at hW
 have hs:Blk w1 w.heap.size 49 (rN r A0 n0 c0 A1 c1 A2 c2 A3 c3 A4 c4):=((Blk.new w _ _).alloc _).same h1
 have hz:Blk w1 (w.heap.size+1) 49 zR:=(Blk.new' (by simp)).same h1
 have hb:=h0.trans (h1.mono h0.size)
 have Hc:w.heap.size+2<=w1.heap.size:=by have:=h1.size;rw [e2] at this;exact this
 obtain ⟨s0,s1,s2,s3,s4,s5,s6,s7,s8,s9⟩:=cz10 hs
 have sz:=hs.frozen
 have sl:=hs.lt
 have H1:=mA (mB hW (mB hs (mB hz (mB hb Hc))))
 clear h1 h0 hs hz hb hW e2 Hc HF
 go_wp2_with fail
 refine (zDb _ _ _ _ _ r Hk _ false HL.out).mono ?_;rintro en w2 ⟨rfl,h2⟩
 have hW:=H1.out.1.below h2
 have hs:=H1.out.2.1.same h2
 have hz:=H1.out.2.2.1.same h2
 have hb:=H1.out.2.2.2.1.trans (h2.mono H1.out.2.2.2.1.size)
 have Hc:w.heap.size+2<=w2.heap.size:=mD H1.out.2.2.2.2 h2.size
 have H2:=mA (mB hW (mB hs (mB hz (mB hb Hc))))
 clear s0 s1 s2 s3 s4 s5 s6 s7 s8 s9 sz sl
 clear hz hb hW h2 Hc
 have Hp:n0=r.kept.log.length:=by
  obtain ⟨A',c',e,_⟩:=HV.out.log.ex
  cases e
  rfl
 subst Hp
 obtain ⟨-,s1,-,s3,s4⟩:=cz5 hs
 rw [Ho.out] at s3
 have sl:=hs.lt
 clear hs
 go_wp2_with fail
 go_region_held3 (fun w'=>w'.cell? ⟨w.heap.size,1,none⟩=some (.int .i64 r.kept.view)/\w'.cell? ⟨w.heap.size,4,none⟩=some (.slice A0 r.kept.log.length c0))
  (first | (go_split_ands;(try dsimp only);(repeat' apply mB) <;> (with_reducible assumption)) | (go_split_ands;(try dsimp only);exact ⟨s1,s4⟩))
  (first
   | (go_at_call 40;refine (zCw _ _ Hk).mono ?_;rintro en w' ⟨rfl,rfl⟩)
   | (go_at_call 80;refine (zEm none 0 0 { Scu.msg0 with kind:=2,n:=r.kept.log.length } (r.kept.view % 3) _ (w.heap.size+2) gw gr r [] (H2.out.1.below (mG _ _).drew).e H2.out.2.2.2.2 IsStrs.nil_ (by simp [R47]) _ rfl).mono ?_;rintro en w3 ⟨rfl,Ha,h3⟩
      rw [if_neg Hn.out] at Ha
      have Hd:=mA (mB Ha ((mG _ _).drew.trans h3))
      have f1:=cW Hd.out.2 (by show w.heap.size < w.heap.size+2;omega) s1
      have f4:=cW Hd.out.2 (by show w.heap.size < w.heap.size+2;omega) s4
      clear Ha h3))
 have h3:=Hd.out.2
 have Ha:WorkE w3 (w.heap.size+2) gw gr r ms:=by rw [<- Hm.out];exact Hd.out.1
 have Hb:Blk w3 (w.heap.size+1) 49 zR:=H2.out.2.2.1.below h3 (by omega)
 have Hl:Below w.heap.size w w3:=H2.out.2.2.2.1.trans (h3.mono (by omega))
 clear h3 Hd f1 f4 s1 s3 s4 sl
 obtain ⟨lu3,Hq,wv3,gv3,nv3,ov3,css3,Ha⟩:=Ha
 obtain ⟨Ao,co,rfl⟩:=Ha.out.form
 obtain ⟨E0,m0,d0,E1,d1,E2,d2,E3,d3,E4,d4,rfl,rfl,rfl,rfl,rfl⟩:=Ha.own.is.forms
 have Hg:=Ha.wb
 have Hh:=Ha.rb
 obtain ⟨f0,f1⟩:=cz2 Hg
 have fl:=Hg.lt
 obtain ⟨k0,k1,k2,k3,k4,k5,k6,k7,k8,k9⟩:=cz10 Hh
 have kz:=Hh.frozen
 have kl:=Hh.lt
 obtain ⟨z0,z1,z2,z3,z4,z5,z6,z7,z8,z9⟩:=cz10 Hb
 have zz:=Hb.frozen
 have zl:=Hb.lt
 have hr:=zAr (a0:=.int .i64 r.me) (a1:=.int .i64 r.kept.view) (a2:=.int .i64 r.kept.normal) (a3:=.bool r.kept.calm) (a4:=.slice E0 m0 d0) (a5:=.int .i64 r.kept.commit) (a6:=.slice E1 r.have_.length d1) (a7:=.slice E2 r.wants.length d2) (a8:=.slice E3 r.gives.length d3) (a9:=.slice E4 r.given.length d4) Hb
 have He:=Same.sets10 (Ts:=[9,3,4,44,137,151]) (B:=0) (a0:=.int .i64 r.me) (a1:=.int .i64 r.kept.view) (a2:=.int .i64 r.kept.normal) (a3:=.bool r.kept.calm) (a4:=.slice E0 m0 d0) (a5:=.int .i64 r.kept.commit) (a6:=.slice E1 r.have_.length d1) (a7:=.slice E2 r.wants.length d2) (a8:=.slice E3 r.gives.length d3) (a9:=.slice E4 r.given.length d4) Hb (mE _) (by decide)
 have Hf:=zAc Hg He (by simp)
 obtain ⟨q0,q1⟩:=cz2 Hf
 have hT:=Ha.own.is.same (He.mono (by simp) (mC _))
 have hO:=Ha.out.is.same (Ts:=[9,137]) (by simp) (He.mono (by simp) (mC _)) (fun _ _ h=>h.same (Ts:=[9,137]) (by simp) (He.mono (by simp) (mC _)))
 have hL:=zAf (a0:=.int .i64 r.me) (a1:=.int .i64 r.kept.view) (a2:=.int .i64 r.kept.normal) (a3:=.bool r.kept.calm) (a4:=.slice E0 m0 d0) (a5:=.int .i64 r.kept.commit) (a6:=.slice E1 r.have_.length d1) (a7:=.slice E2 r.wants.length d2) (a8:=.slice E3 r.gives.length d3) (a9:=.slice E4 r.given.length d4) Hl (show w.heap.size<=w.heap.size+1 by omega)
 obtain ⟨r0,r1,r2,r3,r4,r5,r6,r7,r8,r9⟩:=cz10 hr
 have rz:=hr.frozen
 have rl:=hr.lt
 have hA:∀ g,(Value.slice Ao ms.length co).ownBlock=some g->w.heap.size<=g:=fun g hg=>by have:=(Ha.out.row.lt g hg).1;omega
 have HT:=mA (mB hT (mB hO (mB hL hA)))
 clear hr He hT hO hL Hg Hh Ha Hb Hl Hf hA
 go_wp2_with fail
 go_region
 go_wp2
 refine bodyPost_ret (v:=.tuple #[.agg (rN r E0 m0 d0 E1 d1 E2 d2 E3 d3 E4 d4),.slice Ao ms.length co,.int .i64 0]) (by simp [results,Tryd.results67,go_sem,r0,r1,r2,r3,r4,r5,r6,r7,r8,r9]) rfl ?_
 exact ⟨⟨_,_,_,_,_,_,rfl,HT.out.1.same (Same.drew _),HT.out.2.1.same (Ts:=[9,137]) (by simp) (Same.drew _) (fun _ _ h=>h.same (Ts:=[9]) (by simp) (Same.drew _)),HT.out.2.2.2⟩,HT.out.2.2.1.drew⟩
theorem yAs (lv hv wv gv nv:Value) (r:Scu.Replica) (w:World) (B:Nat) (hr:IsRep w B lv hv wv gv nv r) (hf:Scu.repFault r=0) (hl:Scu.leads r=false) (hc:r.kept.calm=false) (ms:List Scu.Message)
 (Hj:Scu.toAll r.me r.kept.view { Scu.msg0 with kind:=3 } = ms) (rr:Scu.Replica) (Hk : { r with wants:=r.wants.set r.me.toNat true } = rr) :
 Calls Tryd.prog 67 #[.agg #[.int .i64 r.me,.int .i64 r.kept.view,.int .i64 r.kept.normal,.bool r.kept.calm,lv,.int .i64 r.kept.commit,hv,wv,gv,nv]] w fun e w'=>TellN w.heap.size w' rr ms 0 e/\Below w.heap.size w w':=by
 have Hp:=mA Hj
 have Hl:=mA Hk
 have Hq:=mA hc
 have h3:=zEn hf
 have H3:=mA h3
 clear Hj hc Hk h3
 have Hr:=zBh hf
 have HL:=mA hl
 clear hl
 have HV:=mA hr
 have HF:=mA hf
 obtain ⟨A0,n0,c0,A1,c1,A2,c2,A3,c3,A4,c4,rfl,rfl,rfl,rfl,rfl⟩:=hr.forms
 clear hr hf
 go_enter Tryd.func67,Tryd.ntmps67
 go_wp2_with fail
 have h0:Below w.heap.size w ((w.alloc (.cells (rN r A0 n0 c0 A1 c1 A2 c2 A3 c3 A4 c4) 49)).alloc (.cells zR 49)):=(zAa w _).alloc (by simp) _
 refine (zCa _ _ _ _ _ r _ B (HV.out.below h0) HF.out).mono ?_;rintro en w1 ⟨⟨gw,gr,lu,hu,wu,gu,nu,rfl,hW,_⟩,h1⟩
 have e2:((w.alloc (.cells (rN r A0 n0 c0 A1 c1 A2 c2 A3 c3 A4 c4) 49)).alloc (.cells zR 49)).heap.size=w.heap.size+2:=by simp
 rw [e2] at hW
 have hs:Blk w1 w.heap.size 49 (rN r A0 n0 c0 A1 c1 A2 c2 A3 c3 A4 c4):=((Blk.new w _ _).alloc _).same h1
 have hz:Blk w1 (w.heap.size+1) 49 zR:=(Blk.new' (by simp)).same h1
 have hb:=h0.trans (h1.mono h0.size)
 have Hc:w.heap.size+2<=w1.heap.size:=by have:=h1.size;rw [e2] at this;exact this
 obtain ⟨s0,s1,s2,s3,s4,s5,s6,s7,s8,s9⟩:=cz10 hs
 have sz:=hs.frozen
 have sl:=hs.lt
 have H1:=mA (mB hW (mB hs (mB hz (mB hb Hc))))
 clear h1 h0 hs hz hb hW e2 Hc HF
 go_wp2_with fail
 refine (zDb _ _ _ _ _ r Hr _ false HL.out).mono ?_;rintro en w2 ⟨rfl,h2⟩
 have hW:=H1.out.1.below h2
 have hs:=H1.out.2.1.same h2
 have hz:=H1.out.2.2.1.same h2
 have hb:=H1.out.2.2.2.1.trans (h2.mono H1.out.2.2.2.1.size)
 have Hc:w.heap.size+2<=w2.heap.size:=mD H1.out.2.2.2.2 h2.size
 have H2:=mA (mB hW (mB hs (mB hz (mB hb Hc))))
 clear s0 s1 s2 s3 s4 s5 s6 s7 s8 s9 sz sl
 clear hz hb hW h2 Hc
 obtain ⟨g2,c2',Hs⟩:=ones3f H2.out.1.own.own.wants H3.out.2.1
 subst Hs
 obtain ⟨Ht,⟨cur,hB⟩,Hm,Hn,Hu⟩:=ones3' H2.out.1.own.own.wants H3.out.2.1
 clear Hu
 have hN:=H2.out.1.put_wants hB Ht r.me.toNat true
 have Hv:0<=r.me:=H3.out.2.2.2.2.1
 have Hw:r.me < 3:=H3.out.2.2.2.2.2
 obtain ⟨u,hu⟩:=Option.isSome_iff_exists.1 (Hm r.me.toNat (by omega))
 have dz:=Hn r.me.toNat
 have d0:=cz1 H2.out.1.wb
 obtain ⟨-,-,-,-,-,-,-,d7⟩:=cz8 H2.out.1.rb
 obtain ⟨s0,-,-,s3⟩:=cz4 hs
 rw [Hq.out] at s3
 have sl:=hs.lt
 have dl:=H2.out.1.wb.lt
 have dm:=H2.out.1.rb.lt
 have HN:=mA hN
 clear hs hN hB Hm Hn
 go_wp2_with fail
 go_region
 obtain ⟨W3,Hi⟩:=mJ ((w2.setCell ⟨g2,r.me.toNat,none⟩ (.bool true)).drew)
 rw [<- Hi]
 have Hf:=mA (show WorkE W3 (w.heap.size+2) gw gr rr []/\Below (w.heap.size+2) w2 W3 from by rw [Hi,<- Hl.out];exact ⟨(HN.out.1.below (mG _ _).drew).e,HN.out.2.1.drew⟩)
 clear Hi HN d0 d7 s0 s3 sl dl dm dz hu
 have Hx:w.heap.size+2<=W3.heap.size:=mD H2.out.2.2.2.2 Hf.out.2.size
 go_wp2_with fail
 refine (yBq 3 W3 (w.heap.size+2) gw gr rr [] Hf.out.1 Hx (by simp [R47])).mono ?_;rintro en w3 ⟨rfl,Ha,h3⟩
 rw [List.nil_append,show Scu.toAll rr.me rr.kept.view { Scu.msg0 with kind:=3 } = ms from by rw [<- Hl.out];exact Hp.out] at Ha
 have Hb:Blk w3 (w.heap.size+1) 49 zR:=(H2.out.2.2.1.below Hf.out.2 (by omega)).below h3 (by omega)
 have Ho:Below w.heap.size w w3:=H2.out.2.2.2.1.trans ((Hf.out.2.trans h3).mono (by omega))
 clear h3
 obtain ⟨lu3,Hy,wv3,gv3,nv3,ov3,css3,Ha⟩:=Ha
 obtain ⟨Ao,co,rfl⟩:=Ha.out.form
 obtain ⟨E0,m0,d0,E1,d1,E2,d2,E3,d3,E4,d4,rfl,rfl,rfl,rfl,rfl⟩:=Ha.own.is.forms
 have Hg:=Ha.wb
 have Hh:=Ha.rb
 obtain ⟨f0,f1⟩:=cz2 Hg
 have fl:=Hg.lt
 obtain ⟨k0,k1,k2,k3,k4,k5,k6,k7,k8,k9⟩:=cz10 Hh
 have kz:=Hh.frozen
 have kl:=Hh.lt
 obtain ⟨z0,z1,z2,z3,z4,z5,z6,z7,z8,z9⟩:=cz10 Hb
 have zz:=Hb.frozen
 have zl:=Hb.lt
 have hr:=zAr (a0:=.int .i64 rr.me) (a1:=.int .i64 rr.kept.view) (a2:=.int .i64 rr.kept.normal) (a3:=.bool rr.kept.calm) (a4:=.slice E0 m0 d0) (a5:=.int .i64 rr.kept.commit) (a6:=.slice E1 rr.have_.length d1) (a7:=.slice E2 rr.wants.length d2) (a8:=.slice E3 rr.gives.length d3) (a9:=.slice E4 rr.given.length d4) Hb
 have Hd:=Same.sets10 (Ts:=[9,3,4,44,137,151]) (B:=0) (a0:=.int .i64 rr.me) (a1:=.int .i64 rr.kept.view) (a2:=.int .i64 rr.kept.normal) (a3:=.bool rr.kept.calm) (a4:=.slice E0 m0 d0) (a5:=.int .i64 rr.kept.commit) (a6:=.slice E1 rr.have_.length d1) (a7:=.slice E2 rr.wants.length d2) (a8:=.slice E3 rr.gives.length d3) (a9:=.slice E4 rr.given.length d4) Hb (mE _) (by decide)
 have He:=zAc Hg Hd (by simp)
 obtain ⟨q0,q1⟩:=cz2 He
 have hT:=Ha.own.is.same (Hd.mono (by simp) (mC _))
 have hO:=Ha.out.is.same (Ts:=[9,137]) (by simp) (Hd.mono (by simp) (mC _)) (fun _ _ h=>h.same (Ts:=[9,137]) (by simp) (Hd.mono (by simp) (mC _)))
 have hL:=zAf (a0:=.int .i64 rr.me) (a1:=.int .i64 rr.kept.view) (a2:=.int .i64 rr.kept.normal) (a3:=.bool rr.kept.calm) (a4:=.slice E0 m0 d0) (a5:=.int .i64 rr.kept.commit) (a6:=.slice E1 rr.have_.length d1) (a7:=.slice E2 rr.wants.length d2) (a8:=.slice E3 rr.gives.length d3) (a9:=.slice E4 rr.given.length d4) Ho (show w.heap.size<=w.heap.size+1 by omega)
 obtain ⟨r0,r1,r2,r3,r4,r5,r6,r7,r8,r9⟩:=cz10 hr
 have rz:=hr.frozen
 have rl:=hr.lt
 have hA:∀ g,(Value.slice Ao ms.length co).ownBlock=some g->w.heap.size<=g:=fun g hg=>by have:=(Ha.out.row.lt g hg).1;omega
 have HT:=mA (mB hT (mB hO (mB hL hA)))
 clear hr Hd hT hO hL Hg Hh Ha Hb Ho He hA
 go_wp2_with fail
 go_region
 go_wp2
 refine bodyPost_ret (v:=.tuple #[.agg (rN rr E0 m0 d0 E1 d1 E2 d2 E3 d3 E4 d4),.slice Ao ms.length co,.int .i64 0]) (by simp [results,Tryd.results67,go_sem,r0,r1,r2,r3,r4,r5,r6,r7,r8,r9]) rfl ?_
 exact ⟨⟨_,_,_,_,_,_,rfl,HT.out.1.same (Same.drew _),HT.out.2.1.same (Ts:=[9,137]) (by simp) (Same.drew _) (fun _ _ h=>h.same (Ts:=[9]) (by simp) (Same.drew _)),HT.out.2.2.2⟩,HT.out.2.2.1.drew⟩
theorem yAt (lv hv wv gv nv:Value) (r:Scu.Replica) (w:World) (B:Nat) (hr:IsRep w B lv hv wv gv nv r) :
 Calls Tryd.prog 67 #[.agg #[.int .i64 r.me,.int .i64 r.kept.view,.int .i64 r.kept.normal,.bool r.kept.calm,lv,.int .i64 r.kept.commit,hv,wv,gv,nv]] w fun e w'=>TellN w.heap.size w' (Scu.tick r).1 (Scu.tick r).2.1 (Scu.tick r).2.2 e/\Below w.heap.size w w':=by
 by_cases hf:Scu.repFault r=0
 ·by_cases hl:Scu.leads r=true
  ·have e:Scu.tick r=(r,Scu.leadOn r,0):=by unfold Scu.tick;rw [if_neg (fun h=>h hf),if_pos hl]
   rw [e]
   exact yAq lv hv wv gv nv r w B hr hf hl _ rfl
  have Ha:Scu.leads r=false:=by simpa using hl
  by_cases hc:r.kept.calm=true
  ·have e:Scu.tick r=(r,[⟨2,r.me,Scu.leader r.kept.view,r.kept.view,0,0,r.kept.log.length,[]⟩],0):=by unfold Scu.tick;rw [if_neg (fun h=>h hf),if_neg hl,if_pos hc];rfl
   rw [e]
   exact yAr lv hv wv gv nv r w B hr hf Ha hc _ rfl
  have e:Scu.tick r=({ r with wants:=r.wants.set r.me.toNat true },Scu.toAll r.me r.kept.view { Scu.msg0 with kind:=3 },0):=by unfold Scu.tick;rw [if_neg (fun h=>h hf),if_neg hl,if_neg hc]
  rw [e]
  exact yAs lv hv wv gv nv r w B hr hf Ha (by simpa using hc) _ rfl _ rfl
 have e:Scu.tick r=(Scu.replica0,[],Scu.repFault r):=by unfold Scu.tick;rw [if_pos hf]
 rw [e]
 exact yAp lv hv wv gv nv r w B hr _ rfl hf
end Go.Proofs.YtnpphdaakookcaaDoor
