/- Part 14: words and walks under the laws of the whole. -/
import Derived.Test.YtjnjhmkgfjikfaaDoorLv13
set_option linter.unusedVariables false
set_option linter.unusedSimpArgs false
set_option maxHeartbeats 4000000
set_option maxRecDepth 100000
namespace Go.Proofs.YtjnjhmkgfjikfaaDoor
open Go.RowKit
theorem zKd:∀ w,(zeroValue 3).run Tryd.prog w=.ok (.int .i64 0) w:=fun w=>by kernel_rfl
theorem zFq:∀ w,(zeroValue 4).run Tryd.prog w=.ok (.bool false) w:=fun w=>by kernel_rfl
theorem zLq (w:World):(Instr.makeSlice 28 (.int .i64 3) (.int .i64 3)).run Tryd.prog w=.ok (.slice (some ⟨w.heap.size,0,none⟩) 3 3) (w.alloc (.cells #[.int .i64 0,.int .i64 0,.bool false,.slice none 0 0,.int .i64 0,.int .i64 0,.int .i64 0,.bool false,.slice none 0 0,.int .i64 0,.int .i64 0,.int .i64 0,.bool false,.slice none 0 0,.int .i64 0] 25)):=by kernel_rfl
theorem zGh (w:World) (base gw gr:Nat) (r:Scu.Replica) (lu hv wv gv nv ov:Value) (ms:List Scu.Message) (css:List (List Value)) (hW:Work w base gw gr r lu hv wv gv nv ov ms css) (He:base<=w.heap.size)
 (h1:r.have_.length=3) (h2:r.wants.length=3) (h3:r.given.length=3) :
 Calls Tryd.prog 39 #[.pointer (some ⟨gw,0,none⟩)] w fun e w'=>e=.returned (.tuple #[])/\(∃ gv',Work w' base gw gr (Scu.fresh r) lu hv wv gv' nv ov ms css)/\Below base w w'/\Same [9,43] 0 w w':=by
 obtain ⟨g1,c1,rfl⟩:=ones3f hW.own.own.have_ h1
 obtain ⟨g2,c2,rfl⟩:=ones3f hW.own.own.wants h2
 obtain ⟨g3,c3,rfl⟩:=ones3f hW.own.own.given h3
 obtain ⟨hb,⟨cur,hB⟩,hc,hf,_⟩:=ones3' hW.own.own.have_ h1
 have hN:=mB (hW.clear_have hB hb h1).1 (mB (hW.clear_have hB hb h1).2 (Same.setCells3 (Ts:=[9,43]) hB (by decide) (.int .i64 0) (.int .i64 0) (.int .i64 0)))
 have HN:=mA hN
 have HB:=mA (mB hc hf)
 have H3:=mA (mB h1 (mB h2 h3))
 have d0:=cz1 hW.wb
 obtain ⟨-,-,-,-,-,-,d6⟩:=cz7 hW.rb
 have dl:=hW.wb.lt
 have dm:=hW.rb.lt
 clear hW hB hc hf hN h1 h2 h3 hb
 go_enter Tryd.func39,Tryd.ntmps39
 have Ha:(Builtin.clear_ #[26] 0 #[.slice (some ⟨g1,0,none⟩) 3 c1]).run Tryd.prog w=.ok (.tuple #[]) (w.setCells g1 0 [.int .i64 0,.int .i64 0,.int .i64 0]):=zEe Tryd.underlying26 zKd rfl rfl 2 w g1 c1 HB.out.1 HB.out.2
 go_upto_region 1 with fail
 clear Ha
 obtain ⟨W1,Hg⟩:=mJ (w.setCells g1 0 [.int .i64 0,.int .i64 0,.int .i64 0])
 have Hb:=mA (Hg ▸ HN.out:Work W1 base gw gr _ _ _ _ _ _ _ _ _/\Below base w W1/\Same [9,43] 0 w W1)
 rw [<- Hg]
 clear Hg HN HB d0 d6 dl dm
 obtain ⟨hb,⟨cur,hB⟩,hc,hf,_⟩:=ones3' Hb.out.1.own.own.wants H3.out.2.1
 have HN:=mA (mB (Hb.out.1.clear_wants hB hb H3.out.2.1).1 (mB (Hb.out.1.clear_wants hB hb H3.out.2.1).2 (Same.setCells3 (Ts:=[9,43]) hB (by decide) (.bool false) (.bool false) (.bool false))))
 have HB:=mA (mB hc hf)
 have d0:=cz1 Hb.out.1.wb
 obtain ⟨-,-,-,-,-,-,-,d7⟩:=cz8 Hb.out.1.rb
 have dl:=Hb.out.1.wb.lt
 have dm:=Hb.out.1.rb.lt
 clear hB hc hf hb
 have Ha:(Builtin.clear_ #[27] 0 #[.slice (some ⟨g2,0,none⟩) 3 c2]).run Tryd.prog W1=.ok (.tuple #[]) (W1.setCells g2 0 [.bool false,.bool false,.bool false]):=zEe Tryd.underlying27 zFq rfl rfl 2 W1 g2 c2 HB.out.1 HB.out.2
 go_upto_region 2 with fail
 clear Ha
 obtain ⟨W2,Hh⟩:=mJ (W1.setCells g2 0 [.bool false,.bool false,.bool false])
 have Hc:=mA (Hh ▸ HN.out:Work W2 base gw gr _ _ _ _ _ _ _ _ _/\Below base W1 W2/\Same [9,43] 0 W1 W2)
 rw [<- Hh]
 clear Hh HN HB d0 d7 dl dm
 obtain ⟨hb,⟨cur,hB⟩,hc,hf,_⟩:=ones3' Hc.out.1.own.own.given H3.out.2.2
 have HN:=mA (mB (Hc.out.1.clear_given hB hb H3.out.2.2).1 (mB (Hc.out.1.clear_given hB hb H3.out.2.2).2 (Same.setCells3 (Ts:=[9,43]) hB (by decide) (.bool false) (.bool false) (.bool false))))
 have HB:=mA (mB hc hf)
 have d0:=cz1 Hc.out.1.wb
 obtain ⟨-,-,-,-,-,-,-,-,-,d9⟩:=cz10 Hc.out.1.rb
 have dl:=Hc.out.1.wb.lt
 have dm:=Hc.out.1.rb.lt
 clear hB hc hf hb
 have Ha:(Builtin.clear_ #[27] 0 #[.slice (some ⟨g3,0,none⟩) 3 c3]).run Tryd.prog W2=.ok (.tuple #[]) (W2.setCells g3 0 [.bool false,.bool false,.bool false]):=zEe Tryd.underlying27 zFq rfl rfl 2 W2 g3 c3 HB.out.1 HB.out.2
 go_upto_region 3 with fail
 clear Ha
 obtain ⟨W3,Hi⟩:=mJ (W2.setCells g3 0 [.bool false,.bool false,.bool false])
 have Hd:=mA (Hi ▸ HN.out:Work W3 base gw gr _ _ _ _ _ _ _ _ _/\Below base W2 W3/\Same [9,43] 0 W2 W3)
 rw [<- Hi]
 clear Hi HN HB d0 d9 dl dm
 have Hj:base<=W3.heap.size:=mD (mD (mD He Hb.out.2.1.size) Hc.out.2.1.size) Hd.out.2.1.size
 have d0:=cz1 Hd.out.1.wb
 obtain ⟨-,-,-,-,-,-,-,-,d8⟩:=cz9 Hd.out.1.rb
 have dz:=Hd.out.1.rb.frozen
 have dl:=Hd.out.1.wb.lt
 have dm:=Hd.out.1.rb.lt
 have HS:=mA Hj
 clear Hj
 have Hk:=zLq W3.drew
 go_wp2_with fail
 go_region
 have Hf:Below W3.heap.size W3 (W3.alloc (.cells (zeroK ++ (zeroK ++ zeroK)).toArray 25)):=zAa _ _
 have hn:=(Hd.out.1.below Hf).new_gives (v:=.slice (some ⟨W3.heap.size,0,none⟩) 3 3) (gs:=[Scu.kept0,Scu.kept0,Scu.kept0]) ⟨_,zHk (Blk.new W3 _ _) HS.out⟩
 have Hl:Same [9,43] 0 W3 ((W3.alloc (.cells (zeroK ++ (zeroK ++ zeroK)).toArray 25)).setCell ⟨gr,8,none⟩ (.slice (some ⟨W3.heap.size,0,none⟩) 3 3)):=(Same.below Hf).trans (Same.set_ (Hd.out.1.below Hf).rb (mE _) (by decide) 8 _)
 have hn:=mB hn Hl
 rw [World.setCell_alloc_past (w:=W3) (n:=gr) (i:=8) (hn:=dm)] at hn
 have HN:=mA hn
 clear hn d0 d8 dz dl dm Hk
 go_wp2
 go_end0
 refine ⟨rfl,⟨_,HN.out.1.1.below (mG _ _).drew⟩,(((Hb.out.2.1.trans Hc.out.2.1).trans Hd.out.2.1).trans ((Hf.mono HS.out).trans HN.out.1.2)).drew,?_⟩
 exact (((Hb.out.2.2.trans Hc.out.2.2).trans Hd.out.2.2).trans HN.out.2).trans (Same.drew _)
theorem zIn (w:World) (base gw gr:Nat) (r:Scu.Replica) (ms:List Scu.Message) (hW:WorkE w base gw gr r ms) (Ha:base<=w.heap.size) (h3:Rep3 r) :
 Calls Tryd.prog 39 #[.pointer (some ⟨gw,0,none⟩)] w fun e w'=>e=.returned (.tuple #[])/\WorkE w' base gw gr (Scu.fresh r) ms/\Below base w w':=by
 obtain ⟨lu,hv,wv,gv,nv,ov,css,hW⟩:=hW
 refine (zGh w base gw gr r lu hv wv gv nv ov ms css hW Ha h3.1 h3.2.1 h3.2.2.2.1).mono ?_
 rintro e w' ⟨h1,⟨gv',h2⟩,h3,_⟩
 exact ⟨h1,h2.e,h3⟩
theorem zIo (w:World) (base gw gr:Nat) (r:Scu.Replica) (v:Int) (lu hv wv gv nv ov:Value) (ms:List Scu.Message) (css:List (List Value)) (hW:Work w base gw gr r lu hv wv gv nv ov ms css) (Hb:base<=w.heap.size) (h3:Rep3 r) (hm:(ms.length+4)*80<=R47) :
 Calls Tryd.prog 29 #[.pointer (some ⟨gw,0,none⟩),.int .i64 v] w fun e w'=>e=.returned (.tuple #[])/\(∃ lu' Hr wv' gv' nv' ov' css',Work w' base gw gr (Scu.want r v).1 lu' Hr wv' gv' nv' ov' (ms ++ (Scu.want r v).2) css'/\Far w w' ov ov')/\Below base w w':=by
 have hN:=(hW.set_view v).set_calm false
 have hL:=(hW.low 1 (.int .i64 v)).trans ((hW.set_view v).low 3 (.bool false))
 have hF:Far w ((w.setCell ⟨gr,1,none⟩ (.int .i64 v)).setCell ⟨gr,3,none⟩ (.bool false)) ov ov:=Far.same (Ts:=[43]) (by simp) ((Same.set_ hW.rb (mE _) (by decide) 1 _).trans (Same.set_ (hW.set_view v).rb (mE _) (by decide) 3 _))
 have HN:=mA (mB hN (mB hL hF))
 have H3:=mA h3
 have HM:=mA hm
 have d0:=cz1 hW.wb
 obtain ⟨-,d1,-,d3⟩:=cz4 hW.rb
 have dz:=hW.rb.frozen
 have dl:=hW.wb.lt
 have dm:=hW.rb.lt
 clear hW hN hL h3 hm hF
 go_enter Tryd.func29,Tryd.ntmps29
 go_wp2_with fail
 go_region
 obtain ⟨W1,Hg⟩:=mJ (((w.setCell ⟨gr,1,none⟩ (.int .i64 v)).setCell ⟨gr,3,none⟩ (.bool false)).drew)
 rw [<- Hg]
 have He:=mA (show Work W1 base gw gr { r with kept:={ r.kept with view:=v,calm:=false } } lu hv wv gv nv ov ms css/\Below base w W1/\Far w W1 ov ov from by rw [Hg];exact ⟨HN.out.1.below (mG _ _).drew,HN.out.2.1.drew,HN.out.2.2.trans (Far.below (mG _ _).drew)⟩)
 have Hh:base<=W1.heap.size:=mD Hb He.out.2.1.size
 clear Hg HN d0 d1 d3 dz dl dm
 go_wp2_with fail
 refine (zGh W1 base gw gr _ lu hv wv gv nv ov ms css He.out.1 Hh H3.out.1 H3.out.2.1 H3.out.2.2.2.1).mono ?_;rintro en w2 ⟨rfl,⟨gv2,Ha⟩,Hi,Hc⟩
 obtain ⟨g2,c2,rfl⟩:=ones3f Ha.own.own.wants rfl
 have Hl:=He.out.2.2.trans (Far.same (by simp) Hc:Far W1 w2 ov ov)
 obtain ⟨hb,⟨cur,hB⟩,hc,hf,Hs⟩:=ones3' Ha.own.own.wants rfl
 have Ht:0<=r.me:=H3.out.2.2.2.2.1
 have Hu:r.me < 3:=H3.out.2.2.2.2.2
 have hN:=Ha.put_wants hB hb r.me.toNat true
 have Hm:Far w (w2.setCell ⟨g2,r.me.toNat,none⟩ (.bool true)) ov ov:=Hl.trans (Far.same (Ts:=[43]) (by simp) (Same.set_ hB (mE _) (by decide) _ _))
 have d0:=Ha.wb.cell 0
 have d3:=Ha.rb.cell 3
 have d7:=Ha.rb.cell 7
 have dme:w2.cell? ⟨gr,0,none⟩=some (.int .i64 r.me):=Ha.rb.cell 0
 simp only [List.getElem?_toArray,List.getElem?_cons_zero,List.getElem?_cons_succ] at d0 d3 d7
 have dz:=hf r.me.toNat
 obtain ⟨u,hu⟩:=Option.isSome_iff_exists.1 (hc r.me.toNat (by omega))
 have dl:=Ha.wb.lt
 have dm:=Ha.rb.lt
 have Hn:base<=w2.heap.size:=mD Hh Hi.size
 have Hd:=mA (mB hN (mB (He.out.2.1.trans Hi) (mB Hn Hm)))
 clear Ha hB hc hf Hs hN Hi hb Hh Hn Hc Hl Hm
 go_wp2_with fail
 go_region
 obtain ⟨W3,Hj⟩:=mJ ((w2.setCell ⟨g2,r.me.toNat,none⟩ (.bool true)).drew)
 rw [<- Hj]
 have Hf:=mA (show Work W3 base gw gr (Scu.want r v).1 lu hv (.slice (some ⟨g2,0,none⟩) 3 c2) gv2 nv ov ms css/\Below base w W3/\Far w W3 ov ov from by rw [Hj];exact ⟨Hd.out.1.1.below (mG _ _).drew,(Hd.out.2.1.trans Hd.out.1.2.1).drew,Hd.out.2.2.2.trans (Far.below (mG _ _).drew)⟩)
 have Hv:base<=W3.heap.size:=mD Hb Hf.out.2.1.size
 clear Hj Hd d0 d3 d7 dme dz dl dm hu
 go_wp2_with fail
 refine (zNf 3 W3 base gw gr _ lu hv (.slice (some ⟨g2,0,none⟩) 3 c2) gv2 nv ov ms css Hf.out.1 Hv HM.out).mono ?_;rintro en w4 ⟨rfl,⟨ov4,css4,Ho,Hp⟩,Hq⟩
 have Hk:=mA (mB Ho (mB (Hf.out.2.2.trans Hp) (Hf.out.2.1.trans Hq)))
 clear Ho Hq Hp
 go_wp2
 go_end0
 exact ⟨rfl,⟨_,_,_,_,_,_,_,Hk.out.1,Hk.out.2.1⟩,Hk.out.2.2⟩
theorem zMr (w:World) (base gw gr:Nat) (r:Scu.Replica) (v:Int) (ms:List Scu.Message) (hW:WorkE w base gw gr r ms) (Ha:base<=w.heap.size) (h3:Rep3 r) (hm:(ms.length+4)*80<=R47) :
 Calls Tryd.prog 29 #[.pointer (some ⟨gw,0,none⟩),.int .i64 v] w fun e w'=>e=.returned (.tuple #[])/\WorkE w' base gw gr (Scu.want r v).1 (ms ++ (Scu.want r v).2)/\Below base w w':=by
 obtain ⟨lu,hv,wv,gv,nv,ov,css,hW⟩:=hW
 refine (zIo w base gw gr r v lu hv wv gv nv ov ms css hW Ha h3 hm).mono ?_
 rintro e w' ⟨h1,⟨_,_,_,_,_,_,_,h2,_⟩,h3⟩
 exact ⟨h1,h2.e,h3⟩
end Go.Proofs.YtjnjhmkgfjikfaaDoor
