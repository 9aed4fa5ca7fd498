/- Part 18: words and walks under the laws of the whole. -/
import Derived.Test.YtjnjhmkgfjikfaaDoorLv14
set_option linter.unusedVariables false
set_option linter.unusedSimpArgs false
set_option maxHeartbeats 4000000
set_option maxRecDepth 100000
namespace Go.Proofs.YtjnjhmkgfjikfaaDoor
open Go.RowKit
def Scu.best0:Scu.Kept:={ Scu.kept0 with normal:=-1 }
structure BegI (w:World) (base gw gr gb:Nat) (r:Scu.Replica) (lu hv wv:Value) (gg cg gn cn:Nat) (ov:Value) (ms:List Scu.Message) (css:List (List Value)) (b:Scu.Kept) (Ab:Option Addr) (cb:Nat) (wr:World):Prop where
 work:Work wr base gw gr r lu hv wv (.slice (some ⟨gg,0,none⟩) 3 cg) (.slice (some ⟨gn,0,none⟩) 3 cn) ov ms css
 low:Below base w wr
 box:Blk wr gb 25 #[.int .i64 b.view,.int .i64 b.normal,.bool b.calm,.slice Ab b.log.length cb,.int .i64 b.commit]
 log:IsStrs wr 0 (.slice Ab b.log.length cb) b.log
def BegF (r:Scu.Replica) (j m:Nat) (co:Int) (b:Scu.Kept):Prop:=m=(r.given.take j).countP id/\co=Scu.maxCommit ((r.gives.zip r.given).take j)/\b=Scu.bestOf ((r.gives.zip r.given).take j)
theorem BegI.below {w wr w':World} {base gw gr gb:Nat} {r:Scu.Replica} {lu hv wv:Value} {gg cg gn cn:Nat} {ov:Value} {ms:List Scu.Message} {css:List (List Value)} {b:Scu.Kept} {Ab:Option Addr} {cb:Nat}
 (h:BegI w base gw gr gb r lu hv wv gg cg gn cn ov ms css b Ab cb wr) (hb:Below wr.heap.size wr w') (hs:base<=wr.heap.size):BegI w base gw gr gb r lu hv wv gg cg gn cn ov ms css b Ab cb w' :=
 ⟨h.work.below hb,h.low.trans (hb.mono hs),h.box.same hb,h.log.below hb⟩
theorem zGw {r:Scu.Replica} {j:Nat} {g:Scu.Kept} {c:Bool} (hg:r.gives[j]? = some g) (hc:r.given[j]? = some c):(r.gives.zip r.given).take (j+1)=(r.gives.zip r.given).take j ++ [(g,c)]/\r.given.take (j+1)=r.given.take j ++ [c]:=by
 constructor
 ·have hz:(r.gives.zip r.given)[j]? = some (g,c):=by rw [List.getElem?_zip_eq_some];exact ⟨hg,hc⟩
  rw [List.take_add_one,hz]
  rfl
 rw [List.take_add_one,hc]
 rfl
theorem BegF.skip {r:Scu.Replica} {j m:Nat} {co:Int} {b g:Scu.Kept} (h:BegF r j m co b) (hg:r.gives[j]? = some g) (hc:r.given[j]? = some false):BegF r (j+1) m co b:=by
 obtain ⟨h1,h2,h4⟩:=h
 obtain ⟨e1,e2⟩:=zGw hg hc
 unfold BegF Scu.maxCommit Scu.bestOf
 rw [e1,e2,List.countP_append,List.foldl_append,List.foldl_append]
 exact ⟨by simpa using h1,by simpa [Scu.maxCommit] using h2,by simpa [Scu.bestOf] using h4⟩
theorem BegF.take_ {r:Scu.Replica} {j m:Nat} {co:Int} {b g:Scu.Kept} (h:BegF r j m co b) (hg:r.gives[j]? = some g) (hc:r.given[j]? = some true):BegF r (j+1) (m+1) (if co < g.commit then g.commit else co) (if Scu.better g b then g else b):=by
 have Ha:(if co < g.commit then g.commit else co)=max co g.commit:=by split <;> omega
 rw [Ha]
 obtain ⟨h1,h2,h4⟩:=h
 obtain ⟨e1,e2⟩:=zGw hg hc
 unfold BegF Scu.maxCommit Scu.bestOf
 rw [e1,e2,List.countP_append,List.foldl_append,List.foldl_append]
 exact ⟨by simp [h1],by simp [h2,Scu.maxCommit],by simp [h4,Scu.bestOf]⟩
set_option maxHeartbeats 20000000 in
theorem zFr (w:World) (base gw gr:Nat) (r:Scu.Replica) (f:Int) (k:Scu.Kept) (A:Option Addr) (n c:Nat) (ms:List Scu.Message) (hW:WorkE w base gw gr r ms) (Ha:base<=w.heap.size) (h3:Rep3 r) (Vl:0<=f) (Vm:f < 3)
 {B:Nat} (hx:IsStrs w B (.slice A n c) k.log) (hm:(ms.length+4)*80<=R47) :
 Calls Tryd.prog 42 #[.pointer (some ⟨gw,0,none⟩),.int .i64 f,.agg #[.int .i64 k.view,.int .i64 k.normal,.bool k.calm,.slice A n c,.int .i64 k.commit]] w fun e w'=>e=.returned (.tuple #[])/\WorkE w' base gw gr (Scu.take1 r f k).1 (ms ++ (Scu.take1 r f k).2)/\Below base w w':=by
 obtain ⟨lu,hv,wv,gv,nv,ov,css,hW⟩:=hW
 have H3:=mA h3
 have HM:=mA hm
 obtain ⟨gn,cn,rfl⟩:=ones3f hW.own.own.given h3.2.2.2.1
 obtain ⟨kss,Hi⟩:=hW.own.giv
 obtain ⟨gg,cg,rfl⟩:∃ g c,gv=.slice (some ⟨g,0,none⟩) 3 c:=by
  have h:=Hi.row
  rw [h3.2.2.1] at h
  obtain ⟨hl,⟨h0,hn⟩ | ⟨g',cap,cur,e1,_⟩⟩:=h
  ·omega
  exact ⟨g',cap,e1⟩
 have HW:=mA hW
 have HX:=mA hx
 clear hW hx h3 hm Hi
 unfold Scu.take1
 obtain ⟨r2,Kl⟩:=mJ (Scu.give1 r f k)
 rw [<- Kl]
 have Ky:=mA Kl
 clear Kl
 go_enter Tryd.func42,Tryd.ntmps42
 go_upto_region 1 with fail
 obtain ⟨Wd,Kg⟩:=mJ (w.alloc (.cells #[.int .i64 k.view,.int .i64 k.normal,.bool k.calm,.slice A n c,.int .i64 k.commit] 25))
 rw [<- Kg]
 have Kh:Below w.heap.size w Wd:=by rw [Kg];exact zAa _ _
 have hk:Blk Wd w.heap.size 25 #[.int .i64 k.view,.int .i64 k.normal,.bool k.calm,.slice A n c,.int .i64 k.commit]:=by rw [Kg];exact Blk.new _ _ _
 have He:=HW.out.below Kh
 have hX:=HX.out.below Kh
 clear Kg
 obtain ⟨kss,Hi⟩:=HW.out.own.giv
 obtain ⟨_,kcur,Hr⟩:=zAx Hi.row
 obtain ⟨_,⟨ncur,Hs⟩,_⟩:=ones3' HW.out.own.own.given H3.out.2.2.2.1
 have n1:gw≠gg:=zAv HW.out.wb Hr (by decide)
 have n2:gr≠gg:=zAv HW.out.rb Hr (by decide)
 have n3:w.heap.size≠gg:=by have:=Hr.lt;omega
 have n4:gw≠gn:=zAv HW.out.wb Hs (by decide)
 have n5:gr≠gn:=zAv HW.out.rb Hs (by decide)
 have n6:w.heap.size≠gn:=by have:=Hs.lt;omega
 have n7:gn≠gg:=zAv Hs Hr (by decide)
 clear Hi Hr Hs
 have d0:=cz1 He.wb
 obtain ⟨-,-,-,-,-,-,-,-,d8,d9⟩:=cz10 He.rb
 obtain ⟨k0,k1,-,k3,k4⟩:=cz5 hk
 have dl:=He.wb.lt
 have dm:=He.rb.lt
 have dk:=hk.lt
 have H1:=mA (mB He (mB hX (mB hk Kh)))
 clear He hX hk Kh
 go_wp2_with fail
 go_region_held3 (fun w'=>w'.cell? ⟨gw,0,none⟩=some (.pointer (some ⟨gr,0,none⟩))/\w'.cell? ⟨gr,8,none⟩=some (.slice (some ⟨gg,0,none⟩) 3 cg)/\w'.cell? ⟨gr,9,none⟩=some (.slice (some ⟨gn,0,none⟩) 3 cn)/\w'.cell? ⟨w.heap.size,0,none⟩=some (.int .i64 k.view)/\w'.cell? ⟨w.heap.size,1,none⟩=some (.int .i64 k.normal)/\w'.cell? ⟨w.heap.size,3,none⟩=some (.slice A n c)/\w'.cell? ⟨w.heap.size,4,none⟩=some (.int .i64 k.commit))
  (first | (go_split_ands;(try dsimp only);(repeat' apply mB) <;> first | (with_reducible assumption) | (with_reducible (refine (zBp ?_ _).trans ((zAq ?_).trans ?_) <;> assumption)) | (with_reducible (refine (zAq ?_).trans ?_ <;> assumption))) | (go_split_ands;(try dsimp only);exact ⟨d0,d8,d9,k0,k1,k3,k4⟩) | go_keep)
  (first
   | (go_at_call 31;refine (zAo _ k.log _ B ?_).mono ?_;exact H1.out.2.1.drewN 1;rintro en x1 ⟨⟨v1,rfl,hu⟩,k1'⟩
      refine use (P:=Below Wd.heap.size Wd x1) ?_ ?_
      exact (below_drewN (mG _ _) 1).trans k1'
      intro nn1
      have M1:=mA nn1
      obtain ⟨Au,cu,rfl,_,_,_,_⟩:=zAk hu
      have HU:=mA hu
      have Hd:=H1.out.1.below nn1
      obtain ⟨kss,Hi⟩:=Hd.own.giv
      have Vn:r.gives.length=3:=H3.out.2.2.1
      obtain ⟨gz,lg,y0,y1,y2,y3,y4,_⟩:=Hi.cells (i:=f.toNat) (by omega)
      obtain ⟨_,_,hc,nz,_⟩:=ones3' Hd.own.own.given H3.out.2.2.2.1
      obtain ⟨un,yn⟩:=Option.isSome_iff_exists.1 (hc f.toNat (by omega))
      have Kz:=mA Hd
      have yn5:(((((x1.setCell ⟨gg,f.toNat*5,none⟩ (.int .i64 k.view)).setCell ⟨gg,f.toNat*5+1,none⟩ (.int .i64 k.normal)).setCell ⟨gg,f.toNat*5+2,none⟩ (.bool false)).setCell ⟨gg,f.toNat*5+3,none⟩ (.slice Au k.log.length cu)).setCell ⟨gg,f.toNat*5+4,none⟩ (.int .i64 k.commit)).cell? ⟨gn,f.toNat,none⟩=some un:=(zAq n7).trans yn
      have e0:=cW nn1 dl d0
      have e8:=cW nn1 dm d8
      have e9:=cW nn1 dm d9
      have b0:=cW nn1 dk k0
      have b1:=cW nn1 dk k1
      have b3:=cW nn1 dk k3
      have b4:=cW nn1 dk k4
      clear nn1 hu k1' Hi hc Hd))
 obtain ⟨Wf,Km⟩:=mJ ((((((x1.setCell ⟨gg,f.toNat*5,none⟩ (.int .i64 k.view)).setCell ⟨gg,f.toNat*5+1,none⟩ (.int .i64 k.normal)).setCell ⟨gg,f.toNat*5+2,none⟩ (.bool false)).setCell ⟨gg,f.toNat*5+3,none⟩ (.slice Au k.log.length cu)).setCell ⟨gg,f.toNat*5+4,none⟩ (.int .i64 k.commit)).setCell ⟨gn,f.toNat,none⟩ (.bool true))
 have He:Work Wf base gw gr (Scu.give1 r f k) lu hv wv (.slice (some ⟨gg,0,none⟩) 3 cg) (.slice (some ⟨gn,0,none⟩) 3 cn) ov ms css/\Below base w Wf:=by
  have Vd:IsStrs x1 0 (.slice Au k.log.length cu) (Scu.own k).log:=zBx HU.out HX.out.len HX.out.each
  obtain ⟨a1,a2⟩:=Kz.out.put_gives (i:=f.toNat) (by rw [H3.out.2.2.1];omega) Vd
  obtain ⟨hb,cur,hB⟩:=zAx a1.own.own.given.1
  obtain ⟨c1,c2,_⟩:=a1.put_given hB hb f.toNat true
  rw [Km]
  exact ⟨c1,(((H1.out.2.2.2.mono Ha).trans (M1.out.mono (mD Ha H1.out.2.2.2.size))).trans a2).trans c2⟩
 have Kn:Rep3 (Scu.give1 r f k):=⟨H3.out.1,H3.out.2.1,by simp [Scu.give1,H3.out.2.2.1],by simp [Scu.give1,H3.out.2.2.2.1],H3.out.2.2.2.2⟩
 rw [<- Km]
 rw [<- Ky.out] at He Kn
 have Hc:=mA (mB He Kn)
 clear He Kn Km Kz HU M1 HX H1 H3 Ky HW yn5 e0 e8 e9 b0 b1 b3 b4 gz y0 y1 y2 y3 y4 nz yn dl dm dk d0 d8 d9 k0 k1 k3 k4
 have Vo:base<=Wf.heap.size:=mD Ha Hc.out.1.2.size
 have Ve:0<=r2.me:=Hc.out.2.2.2.2.2.1
 have Vf:r2.me < 3:=Hc.out.2.2.2.2.2.2
 have d0:=cz1 Hc.out.1.1.wb
 obtain ⟨d0r,d1,-,-,-,-,-,-,d8,d9⟩:=cz10 Hc.out.1.1.rb
 have dl:=Hc.out.1.1.wb.lt
 have dm:=Hc.out.1.1.rb.lt
 obtain ⟨_,_,_,_,Ht⟩:=ones3' Hc.out.1.1.own.own.given Hc.out.2.2.2.2.1
 obtain ⟨b,hb⟩:=mJ (r2.given.getD r2.me.toNat false)
 have dg:Wf.cell? ⟨gn,r2.me.toNat,none⟩=some (.bool b):=by
  have Hl:r2.me.toNat < r2.given.length:=by rw [Hc.out.2.2.2.2.1];omega
  rw [Ht _ (by omega),List.getElem?_map,mH Hl,hb,mI,mH Hl]
  rfl
 clear Ht
 have HB:=mA hb
 clear hb
 cases b with
 | false =>
   have Hb:Scu.begun r2=(r2,[]):=by unfold Scu.begun;rw [if_pos HB.out.symm]
   have Hg:=mA Hb
   clear Hb
   go_wp2_with fail
   go_region
   go_wp2
   refine bodyPost_ret (v:=.tuple #[]) (by simp [results,Tryd.results42]) rfl ?_
   refine ⟨rfl,?_,Hc.out.1.2.drew⟩
   rw [Hg.out,List.append_nil]
   exact (Hc.out.1.1.below (mG _ _).drew).e
 | true =>
   go_wp2_with fail
   go_region
   obtain ⟨Wg,Ko⟩:=mJ (Wf.drew)
   rw [<- Ko]
   have Hq:=mA (show Work Wg base gw gr r2 lu hv wv (.slice (some ⟨gg,0,none⟩) 3 cg) (.slice (some ⟨gn,0,none⟩) 3 cn) ov ms css/\Below base w Wg from by rw [Ko];exact ⟨Hc.out.1.1.below (mG _ _).drew,Hc.out.1.2.drew⟩)
   clear Ko d0 d0r d1 d8 d9 dl dm dg
   have Kp:=Hq.out.1.wb
   have Kq:=Hq.out.1.rb
   have d0:=cz1 Kp
   obtain ⟨-,-,-,-,-,-,-,-,d8⟩:=cz9 Kq
   have dl:=Kp.lt
   have dm:=Kq.lt
   have Kr:base<=Wg.heap.size:=mD Ha Hq.out.2.size
   have Va:Wg.heap.size≠gg:=by
    obtain ⟨_,hq⟩:=Hq.out.1.own.giv
    obtain ⟨_,_,Hu⟩:=zAx hq.row
    have:=Hu.lt
    omega
   have HI:=mA (show BegI w base gw gr Wg.heap.size r2 lu hv wv gg cg gn cn ov ms css Scu.best0 none 0 (Wg.alloc (.cells #[.int .i64 0,.int .i64 (-1),.bool false,.slice none 0 0,.int .i64 0] 25)) from
    ⟨Hq.out.1.below (zAa _ _),Hq.out.2.trans ((zAa _ _).mono Kr),Blk.new Wg _ _,IsStrs.nil_⟩)
   clear Kp Kq
   go_wp2_with fail
   go_loopw [6,8,66] (fun mv cv iv wr=>∃ (j m:Nat) (co:Int) (b:Scu.Kept) (Ab:Option Addr) (cb:Nat),j<=3/\iv=.int .i64 j/\mv=.int .i64 m/\cv=.int .i64 co/\m<=j/\Hid (BegF r2 j m co b)/\Hid (BegI w base gw gr Wg.heap.size r2 lu hv wv gg cg gn cn ov ms css b Ab cb wr)) (fun _ _ iv _=>3 - (intOf iv).toNat)
   case atStart=>exact ⟨0,0,0,Scu.best0,none,0,mE _,rfl,rfl,rfl,mC _,mA ⟨rfl,rfl,rfl⟩,HI⟩
   case round =>
    obtain ⟨j,m,co,b,Ab,cb,hj,rfl,rfl,rfl,Vp,HF,HJ⟩:=hrel
    by_cases Hl:j < 3
    ·have Vg:(j:Int) < 3:=by omega
     obtain ⟨kss,Hi⟩:=HJ.out.work.own.giv
     obtain ⟨gz,lg,y0,y1,y2,y3,y4,Ki⟩:=Hi.cells (i:=j) (by rw [Hc.out.2.2.2.1];exact Hl)
     obtain ⟨g,hg⟩:=mJ (r2.gives[j]'(by rw [Hc.out.2.2.2.1];exact Hl))
     rw [<- hg] at y0 y1 y2 y4 Ki
     obtain ⟨⟨Al,cl,rfl,_,_⟩,_,_⟩:=id Ki
     have HG:=mA (mB hg Ki)
     clear hg Ki Hi gz
     go_upto_region 9 with fail
     obtain ⟨Wa,Kj⟩:=mJ (wr.alloc (.cells #[.int .i64 g.view,.int .i64 g.normal,.bool g.calm,.slice Al g.log.length cl,.int .i64 g.commit] 25))
     rw [<- Kj]
     have Ks:Below wr.heap.size wr Wa:=by rw [Kj];exact zAa _ _
     have Kt:Blk Wa wr.heap.size 25 #[.int .i64 g.view,.int .i64 g.normal,.bool g.calm,.slice Al g.log.length cl,.int .i64 g.commit]:=by rw [Kj];exact Blk.new _ _ _
     have Vh:base<=wr.heap.size:=mD Ha HJ.out.low.size
     have Hf:=mA (HJ.out.below Ks Vh)
     have Vb:=mA (HG.out.2.below Ks)
     clear Kj y0 y1 y2 y3 y4
     obtain ⟨c,hc⟩:∃ c,r2.given[j]? = some c:=⟨_,mH (by rw [Hc.out.2.2.2.2.1];exact Hl)⟩
     have Vc:r2.gives[j]? = some g:=by rw [HG.out.1];exact mH _
     obtain ⟨_,_,_,_,Ht⟩:=ones3' Hf.out.work.own.own.given Hc.out.2.2.2.2.1
     have dg:Wa.cell? ⟨gn,j,none⟩=some (.bool c):=by rw [Ht _ Hl,List.getElem?_map,hc];rfl
     have d0:=cz1 Hf.out.work.wb
     obtain ⟨-,-,-,-,-,-,-,-,-,d9⟩:=cz10 Hf.out.work.rb
     obtain ⟨b0,b1,b2,b3,b4⟩:=cz5 Hf.out.box
     obtain ⟨g0,g1,g2,g3,g4⟩:=cz5 Kt
     have bz:=Hf.out.box.frozen
     have bl:=Hf.out.box.lt
     have gl:=Kt.lt
     have dl:=Hf.out.work.wb.lt
     have dm:=Hf.out.work.rb.lt
     clear Ht Kt Ks
     have HC:=mA (mB Vc hc)
     clear Vc hc
     cases c with
     | false =>
       have Hk:=mA (HF.out.skip HC.out.1 HC.out.2)
       go_wp2
       go_roundw
       case rel=>exact ⟨j+1,m,co,b,Ab,cb,by omega,rfl,rfl,rfl,by omega,Hk,Hf⟩
       case measure=>simp only [intOf];omega
     | true =>
       have Vq:(m:Int) < 3:=by omega
       have Hh:=HF.out.take_ HC.out.1 HC.out.2
       by_cases hA:b.normal < g.normal
       ·have Hj:Scu.better g b=true:=by unfold Scu.better;simp [hA]
        rw [if_pos Hj] at Hh
        have Hk:=mA Hh
        clear Hh Hj
        go_upto_region 14 with fail
        obtain ⟨Wb,Hm⟩:=mJ (((((Wa.setCell ⟨Wg.heap.size,0,none⟩ (.int .i64 g.view)).setCell ⟨Wg.heap.size,1,none⟩ (.int .i64 g.normal)).setCell ⟨Wg.heap.size,2,none⟩ (.bool g.calm)).setCell ⟨Wg.heap.size,3,none⟩ (.slice Al g.log.length cl)).setCell ⟨Wg.heap.size,4,none⟩ (.int .i64 g.commit))
        rw [<- Hm]
        obtain ⟨z1,z2,z3,z4⟩:=Hf.out.work.box5 (a0:=.int .i64 g.view) (a1:=.int .i64 g.normal) (a2:=.bool g.calm) (a3:=.slice Al g.log.length cl) (a4:=.int .i64 g.commit) Hf.out.box Va Kr
        rw [<- Hm] at z1 z2 z3 z4
        have Ku:=mA (show BegI w base gw gr Wg.heap.size r2 lu hv wv gg cg gn cn ov ms css g Al cl Wb from ⟨z1,Hf.out.low.trans z2,z3,Vb.out.same (by simp) z4⟩)
        clear Hm z1 z2 z3 z4 b0 b1 b2 b3 b4 g0 g1 g2 g3 g4 bz bl gl d0 d9 dg
        go_wp2
        go_roundw
        case rel=>exact ⟨j+1,m+1,(if co < g.commit then g.commit else co),g,Al,cl,by omega,rfl,(by simp),rfl,by omega,Hk,Ku⟩
        case measure=>simp only [intOf];omega
       ·by_cases hE:g.normal=b.normal
        ·have Vi:(g.normal == b.normal)=true:=by simpa using hE
         by_cases hL:(b.log.length:Int) < (g.log.length:Int)
         ·have Hj:Scu.better g b=true:=by unfold Scu.better;simp [hE];omega
          rw [if_pos Hj] at Hh
          have Hk:=mA Hh
          clear Hh Hj hE
          go_upto_region 14 with fail
          obtain ⟨Wb,Hm⟩:=mJ (((((Wa.setCell ⟨Wg.heap.size,0,none⟩ (.int .i64 g.view)).setCell ⟨Wg.heap.size,1,none⟩ (.int .i64 g.normal)).setCell ⟨Wg.heap.size,2,none⟩ (.bool g.calm)).setCell ⟨Wg.heap.size,3,none⟩ (.slice Al g.log.length cl)).setCell ⟨Wg.heap.size,4,none⟩ (.int .i64 g.commit))
          rw [<- Hm]
          obtain ⟨z1,z2,z3,z4⟩:=Hf.out.work.box5 (a0:=.int .i64 g.view) (a1:=.int .i64 g.normal) (a2:=.bool g.calm) (a3:=.slice Al g.log.length cl) (a4:=.int .i64 g.commit) Hf.out.box Va Kr
          rw [<- Hm] at z1 z2 z3 z4
          have Ku:=mA (show BegI w base gw gr Wg.heap.size r2 lu hv wv gg cg gn cn ov ms css g Al cl Wb from ⟨z1,Hf.out.low.trans z2,z3,Vb.out.same (by simp) z4⟩)
          clear Hm z1 z2 z3 z4 b0 b1 b2 b3 b4 g0 g1 g2 g3 g4 bz bl gl d0 d9 dg
          go_wp2
          go_roundw
          case rel=>exact ⟨j+1,m+1,(if co < g.commit then g.commit else co),g,Al,cl,by omega,rfl,(by simp),rfl,by omega,Hk,Ku⟩
          case measure=>simp only [intOf];omega
         have Hj:Scu.better g b=false:=by unfold Scu.better;simp [hE];omega
         rw [Hj,if_neg (show ¬ (false=true) by decide)] at Hh
         have Hk:=mA Hh
         clear Hh Hj hE
         go_wp2
         go_roundw
         case rel=>exact ⟨j+1,m+1,(if co < g.commit then g.commit else co),b,Ab,cb,by omega,rfl,(by simp),rfl,by omega,Hk,Hf⟩
         case measure=>simp only [intOf];omega
        have Vi:(g.normal == b.normal)=false:=by simpa using hE
        have Hj:Scu.better g b=false:=by unfold Scu.better;simp [hE,hA]
        rw [Hj,if_neg (show ¬ (false=true) by decide)] at Hh
        have Hk:=mA Hh
        clear Hh Hj hE
        go_wp2
        go_roundw
        case rel=>exact ⟨j+1,m+1,(if co < g.commit then g.commit else co),b,Ab,cb,by omega,rfl,(by simp),rfl,by omega,Hk,Hf⟩
        case measure=>simp only [intOf];omega
    have Vj:j=3:=by omega
    subst Vj
    have Vr:¬ ((3:Nat):Int) < 3:=by omega
    obtain ⟨f1,f2,f3⟩:=HF.out
    have Kk:r2.given.length=3:=Hc.out.2.2.2.2.1
    have Kv:(r2.gives.zip r2.given).length=3:=by rw [List.length_zip,Hc.out.2.2.2.1,Kk];rfl
    rw [List.take_of_length_le (by omega)] at f1
    rw [List.take_of_length_le (by omega)] at f2 f3
    have Hv:r2.given.getD r2.me.toNat false≠false:=by rw [<- HB.out];decide
    by_cases hm2:(m:Int) < 2
    ·have Hb:Scu.begun r2=(r2,[]):=by unfold Scu.begun;rw [if_neg Hv,if_pos (by omega)]
     have Hg:=mA Hb
     clear Hb f1 f2 f3 Kk Kv Hv
     go_wp2
     refine bodyPost_ret (v:=.tuple #[]) (by simp [results,Tryd.results42]) rfl ?_
     refine ⟨rfl,?_,HJ.out.low⟩
     rw [Hg.out,List.append_nil]
     exact HJ.out.work.e
    have Hb:Scu.begun r2=(Scu.fresh { r2 with kept:=⟨r2.kept.view,r2.kept.view,true,b.log,if (b.log.length:Int) < co then (b.log.length:Int) else co⟩ },Scu.leadOn (Scu.fresh { r2 with kept:=⟨r2.kept.view,r2.kept.view,true,b.log,if (b.log.length:Int) < co then (b.log.length:Int) else co⟩ })):=by
     have Vk:(if (b.log.length:Int) < co then (b.log.length:Int) else co)=min (Scu.maxCommit (r2.gives.zip r2.given)) b.log.length:=by rw [<- f2];split <;> omega
     unfold Scu.begun
     rw [if_neg Hv,if_neg (by omega),Vk,f3]
    by_cases hq:(b.log.length:Int) < co
    ·rw [if_pos hq] at Hb
     have Hg:=mA Hb
     clear Hb f1 f2 f3 Kk Kv Hv
     have d0:=cz1 HJ.out.work.wb
     obtain ⟨-,d1,d2,d3,d4,d5⟩:=cz6 HJ.out.work.rb
     obtain ⟨-,-,-,b3⟩:=cz4 HJ.out.box
     have dz:=HJ.out.work.rb.frozen
     have dl:=HJ.out.work.wb.lt
     have dm:=HJ.out.work.rb.lt
     have bl:=HJ.out.box.lt
     have n1:gw≠gr:=zAv HJ.out.work.wb HJ.out.work.rb (by decide)
     have n2:Wg.heap.size≠gr:=zAv HJ.out.box HJ.out.work.rb (by decide)
     go_wp2_with fail
     go_region_held3 (fun w'=>w'.cell? ⟨gw,0,none⟩=some (.pointer (some ⟨gr,0,none⟩))/\w'.cell? ⟨Wg.heap.size,3,none⟩=some (.slice Ab b.log.length cb))
      (first | (go_split_ands;(try dsimp only);(repeat' apply mB) <;> first | (with_reducible assumption) | (with_reducible (refine (zAq ?_).trans ?_ <;> assumption))) | (go_split_ands;(try dsimp only);exact ⟨d0,b3⟩))
      (first
       | (go_at_call 31;refine (zAo _ b.log _ 0 ?_).mono ?_;exact HJ.out.log.drewN 1;rintro en x1 ⟨⟨v1,rfl,hu⟩,k1'⟩
          refine use (P:=Below wr.heap.size wr x1) ?_ ?_
          exact (below_drewN (mG _ _) 1).trans k1'
          intro nn1
          have M1:=mA nn1
          obtain ⟨Au,cu,rfl,_,_,_,_⟩:=zAk hu
          have HU:=mA hu
          have e0:=cW nn1 dl d0
          have e1:=cW nn1 dm d1
          have e2:=cW nn1 dm d2
          have e3:=cW nn1 dm d3
          have e4:=cW nn1 dm d4
          have e5:=cW nn1 dm d5
          have ez:=(HJ.out.work.below nn1).rb.frozen
          have c3:=cW nn1 bl b3
          clear nn1 hu k1'))
     all_goals
      rename_i hHeld
      clear hHeld
      (try (have Hu:¬ ((b.log.length:Int) < co):=by omega
            simp only [Hu,↓reduceIte]))
      obtain ⟨Wc,Hn⟩:=mJ (((((x1.setCell ⟨gr,1,none⟩ (.int .i64 r2.kept.view)).setCell ⟨gr,2,none⟩ (.int .i64 r2.kept.view)).setCell ⟨gr,3,none⟩ (.bool true)).setCell ⟨gr,4,none⟩ (.slice Au b.log.length cu)).setCell ⟨gr,5,none⟩ (.int .i64 ((b.log.length:Int))))
      rw [<- Hn]
      have He:WorkE Wc base gw gr { r2 with kept:=⟨r2.kept.view,r2.kept.view,true,b.log,((b.log.length:Int))⟩ } ms/\Below base w Wc:=by
       have Hd:=HJ.out.work.below M1.out
       have Hw:base<=wr.heap.size:=mD Ha HJ.out.low.size
       have Hx:OwnStrs x1 base (.slice Au b.log.length cu) b.log:=⟨zAh HU.out Hw,HJ.out.log.len,HJ.out.log.each⟩
       have Ho:=((Hd.set_view r2.kept.view).set_normal r2.kept.view).set_calm true
       have Hy:Same [9] 0 x1 (((x1.setCell ⟨gr,1,none⟩ (.int .i64 r2.kept.view)).setCell ⟨gr,2,none⟩ (.int .i64 r2.kept.view)).setCell ⟨gr,3,none⟩ (.bool true)) :=
        ((Same.set_ Hd.rb (mE _) (by decide) 1 _).trans (Same.set_ (Hd.set_view r2.kept.view).rb (mE _) (by decide) 2 _)).trans (Same.set_ ((Hd.set_view r2.kept.view).set_normal r2.kept.view).rb (mE _) (by decide) 3 _)
       have Kw:=(Ho.set_log (Hx.same Hy)).set_commit ((b.log.length:Int))
       rw [Hn]
       exact ⟨Kw.e,(HJ.out.low.trans (M1.out.mono Hw)).trans (((((Hd.low 1 _).trans ((Hd.set_view r2.kept.view).low 2 _)).trans (((Hd.set_view r2.kept.view).set_normal r2.kept.view).low 3 _)).trans (Ho.low 4 _)).trans ((Ho.set_log (Hx.same Hy)).low 5 _))⟩
      have Hz:=mA He
      have Ka:base<=Wc.heap.size:=mD Ha He.2.size
      clear He Hn e0 e1 e2 e3 e4 e5 ez c3 HU M1 d0 d1 d2 d3 d4 d5 b3 dz dl dm bl n1 n2
      go_wp2_with fail
      refine (zIn Wc base gw gr _ ms Hz.out.1 Ka (show Rep3 { r2 with kept:=⟨r2.kept.view,r2.kept.view,true,b.log,((b.log.length:Int))⟩ } from Hc.out.2)).mono ?_;rintro en x2 ⟨rfl,Kb,Hp⟩
      have Kc:=mA (mB Kb (Hz.out.2.trans Hp))
      have Kx:base<=x2.heap.size:=mD Ka Hp.size
      clear Kb Hp
      go_wp2_with fail
      refine (zEd x2 base gw gr _ ms Kc.out.1 Kx HM.out).mono ?_;rintro en x3 ⟨rfl,Kd,Ke⟩
      have Kf:=mA (mB Kd (Kc.out.2.trans Ke))
      clear Kd Ke
      rename_i KK hKK
      refine hKK _ _ ?_
      dsimp only [wpList]
      go_end0
      refine ⟨rfl,?_,Kf.out.2⟩
      rw [Hg.out]
      exact Kf.out.1
    rw [if_neg hq] at Hb
    have Hg:=mA Hb
    clear Hb f1 f2 f3 Kk Kv Hv
    have d0:=cz1 HJ.out.work.wb
    obtain ⟨-,d1,d2,d3,d4,d5⟩:=cz6 HJ.out.work.rb
    obtain ⟨-,-,-,b3⟩:=cz4 HJ.out.box
    have dz:=HJ.out.work.rb.frozen
    have dl:=HJ.out.work.wb.lt
    have dm:=HJ.out.work.rb.lt
    have bl:=HJ.out.box.lt
    have n1:gw≠gr:=zAv HJ.out.work.wb HJ.out.work.rb (by decide)
    have n2:Wg.heap.size≠gr:=zAv HJ.out.box HJ.out.work.rb (by decide)
    go_wp2_with fail
    go_region_held3 (fun w'=>w'.cell? ⟨gw,0,none⟩=some (.pointer (some ⟨gr,0,none⟩))/\w'.cell? ⟨Wg.heap.size,3,none⟩=some (.slice Ab b.log.length cb))
     (first | (go_split_ands;(try dsimp only);(repeat' apply mB) <;> first | (with_reducible assumption) | (with_reducible (refine (zAq ?_).trans ?_ <;> assumption))) | (go_split_ands;(try dsimp only);exact ⟨d0,b3⟩))
     (first
      | (go_at_call 31;refine (zAo _ b.log _ 0 ?_).mono ?_;exact HJ.out.log.drewN 1;rintro en x1 ⟨⟨v1,rfl,hu⟩,k1'⟩
         refine use (P:=Below wr.heap.size wr x1) ?_ ?_
         exact (below_drewN (mG _ _) 1).trans k1'
         intro nn1
         have M1:=mA nn1
         obtain ⟨Au,cu,rfl,_,_,_,_⟩:=zAk hu
         have HU:=mA hu
         have e0:=cW nn1 dl d0
         have e1:=cW nn1 dm d1
         have e2:=cW nn1 dm d2
         have e3:=cW nn1 dm d3
         have e4:=cW nn1 dm d4
         have e5:=cW nn1 dm d5
         have ez:=(HJ.out.work.below nn1).rb.frozen
         have c3:=cW nn1 bl b3
         clear nn1 hu k1'))
    all_goals
     rename_i hHeld
     clear hHeld
     (try (have Hu:¬ ((b.log.length:Int) < co):=by omega
           simp only [Hu,↓reduceIte]))
     obtain ⟨Wc,Hn⟩:=mJ (((((x1.setCell ⟨gr,1,none⟩ (.int .i64 r2.kept.view)).setCell ⟨gr,2,none⟩ (.int .i64 r2.kept.view)).setCell ⟨gr,3,none⟩ (.bool true)).setCell ⟨gr,4,none⟩ (.slice Au b.log.length cu)).setCell ⟨gr,5,none⟩ (.int .i64 (co)))
     rw [<- Hn]
     have He:WorkE Wc base gw gr { r2 with kept:=⟨r2.kept.view,r2.kept.view,true,b.log,(co)⟩ } ms/\Below base w Wc:=by
      have Hd:=HJ.out.work.below M1.out
      have Hw:base<=wr.heap.size:=mD Ha HJ.out.low.size
      have Hx:OwnStrs x1 base (.slice Au b.log.length cu) b.log:=⟨zAh HU.out Hw,HJ.out.log.len,HJ.out.log.each⟩
      have Ho:=((Hd.set_view r2.kept.view).set_normal r2.kept.view).set_calm true
      have Hy:Same [9] 0 x1 (((x1.setCell ⟨gr,1,none⟩ (.int .i64 r2.kept.view)).setCell ⟨gr,2,none⟩ (.int .i64 r2.kept.view)).setCell ⟨gr,3,none⟩ (.bool true)) :=
       ((Same.set_ Hd.rb (mE _) (by decide) 1 _).trans (Same.set_ (Hd.set_view r2.kept.view).rb (mE _) (by decide) 2 _)).trans (Same.set_ ((Hd.set_view r2.kept.view).set_normal r2.kept.view).rb (mE _) (by decide) 3 _)
      have Kw:=(Ho.set_log (Hx.same Hy)).set_commit (co)
      rw [Hn]
      exact ⟨Kw.e,(HJ.out.low.trans (M1.out.mono Hw)).trans (((((Hd.low 1 _).trans ((Hd.set_view r2.kept.view).low 2 _)).trans (((Hd.set_view r2.kept.view).set_normal r2.kept.view).low 3 _)).trans (Ho.low 4 _)).trans ((Ho.set_log (Hx.same Hy)).low 5 _))⟩
     have Hz:=mA He
     have Ka:base<=Wc.heap.size:=mD Ha He.2.size
     clear He Hn e0 e1 e2 e3 e4 e5 ez c3 HU M1 d0 d1 d2 d3 d4 d5 b3 dz dl dm bl n1 n2
     go_wp2_with fail
     refine (zIn Wc base gw gr _ ms Hz.out.1 Ka (show Rep3 { r2 with kept:=⟨r2.kept.view,r2.kept.view,true,b.log,(co)⟩ } from Hc.out.2)).mono ?_;rintro en x2 ⟨rfl,Kb,Hp⟩
     have Kc:=mA (mB Kb (Hz.out.2.trans Hp))
     have Kx:base<=x2.heap.size:=mD Ka Hp.size
     clear Kb Hp
     go_wp2_with fail
     refine (zEd x2 base gw gr _ ms Kc.out.1 Kx HM.out).mono ?_;rintro en x3 ⟨rfl,Kd,Ke⟩
     have Kf:=mA (mB Kd (Kc.out.2.trans Ke))
     clear Kd Ke
     rename_i KK hKK
     refine hKK _ _ ?_
     dsimp only [wpList]
     go_end0
     refine ⟨rfl,?_,Kf.out.2⟩
     rw [Hg.out]
     exact Kf.out.1
def Scu.giveOut (r:Scu.Replica):Scu.Replica × List Scu.Message :=
 if Scu.leader r.kept.view=r.me then Scu.take1 r (Scu.leader r.kept.view) r.kept
 else (r,[⟨4,r.me,Scu.leader r.kept.view,r.kept.view,r.kept.normal,r.kept.commit,0,r.kept.log⟩])
theorem zKw (w:World) (base gw gr:Nat) (r:Scu.Replica) (ms:List Scu.Message) (hW:WorkE w base gw gr r ms) (Hb:base<=w.heap.size) (h3:Rep3 r) (Ht:0<=r.kept.view) (hm:(ms.length+4)*80<=R47) :
 Calls Tryd.prog 41 #[.pointer (some ⟨gw,0,none⟩)] w fun e w'=>e=.returned (.tuple #[])/\WorkE w' base gw gr (Scu.giveOut r).1 (ms ++ (Scu.giveOut r).2)/\Below base w w':=by
 obtain ⟨lu,hv,wv,gv,nv,ov,css,hW⟩:=hW
 obtain ⟨A,n,c,rfl⟩:=hW.own.is.log.form
 have H3:=mA h3
 have HM:=mA hm
 have d0:=cz1 hW.wb
 obtain ⟨dr0,d1,d2,d3,d4,d5⟩:=cz6 hW.rb
 have dl:=hW.wb.lt
 have dm:=hW.rb.lt
 have HW:=mA hW
 obtain ⟨tt,Hn⟩:=mJ (r.kept.view % 3)
 have Hi:0<=tt:=by omega
 have Hj:tt < 3:=by omega
 have Hk:=mA Hn
 clear hW h3 hm Hn
 go_enter Tryd.func41,Tryd.ntmps41
 go_upto_region 1 with fail
 obtain ⟨Wd,Hf⟩:=mJ (w.alloc (.cells #[.int .i64 r.kept.view,.int .i64 r.kept.normal,.bool r.kept.calm,.slice A n c,.int .i64 r.kept.commit] 25))
 rw [<- Hf]
 have Hg:Below w.heap.size w Wd:=by rw [Hf];exact zAa _ _
 have hk:Blk Wd w.heap.size 25 #[.int .i64 r.kept.view,.int .i64 r.kept.normal,.bool r.kept.calm,.slice A n c,.int .i64 r.kept.commit]:=by rw [Hf];exact Blk.new _ _ _
 have Ha:=mA (mB (HW.out.below Hg) (mB hk (Hg.mono Hb)))
 have Hl:base<=Wd.heap.size:=mD Hb Hg.size
 clear Hf d0 dr0 d1 d2 d3 d4 d5 dl dm Hg hk
 have d0:=cz1 Ha.out.1.wb
 have dr0:=cz1 Ha.out.1.rb
 obtain ⟨k0,k1,k2,k3,k4⟩:=cz5 Ha.out.2.1
 have dl:=Ha.out.1.wb.lt
 have dm:=Ha.out.1.rb.lt
 have dk:=Ha.out.2.1.lt
 go_wp2_with fail
 refine (zBc _ _ Ht).mono ?_;rintro en w' ⟨rfl,rfl⟩
 rw [<- Hk.out]
 by_cases Hc:tt=r.me
 ·have Hd:Scu.giveOut r=Scu.take1 r tt r.kept:=by unfold Scu.giveOut Scu.leader;rw [<- Hk.out,if_pos Hc]
  have Hm:(tt == r.me)=true:=by simpa using Hc
  have Hh:=mA Hd
  clear Hd Hc
  go_wp2_with fail
  refine (zFr Wd base gw gr r tt r.kept A n c ms Ha.out.1.e Hl H3.out Hi Hj Ha.out.1.own.is.log HM.out).mono ?_;rintro en x1 ⟨rfl,He,Ho⟩
  have HX:=mA (mB He (Ha.out.2.2.trans Ho))
  clear He Ho
  go_wp2
  refine bodyPost_ret (v:=.tuple #[]) (by simp [results,Tryd.results41]) rfl ?_
  rw [Hh.out]
  exact ⟨rfl,HX.out⟩
 have Hd:Scu.giveOut r=(r,[⟨4,r.me,tt,r.kept.view,r.kept.normal,r.kept.commit,0,r.kept.log⟩]):=by unfold Scu.giveOut Scu.leader;rw [<- Hk.out,if_neg Hc]
 have Hm:(tt == r.me)=false:=by simpa using Hc
 have Hh:=mA (mB Hd Hc)
 have NB:=mA (show w.heap.size≠gw/\ov.ownBlock≠some w.heap.size from ⟨by have:=HW.out.wb.lt;omega,fun e=>by have:=(HW.out.out.row.lt _ e).2;omega⟩)
 clear Hd Hc
 go_wp2_with fail
 go_region_held3 (fun w'=>w'.cell? ⟨w.heap.size,1,none⟩=some (.int .i64 r.kept.normal)/\w'.cell? ⟨w.heap.size,3,none⟩=some (.slice A n c)/\w'.cell? ⟨w.heap.size,4,none⟩=some (.int .i64 r.kept.commit))
  (first | (go_split_ands;(try dsimp only);(repeat' apply mB) <;> (with_reducible assumption)) | (go_split_ands;(try dsimp only);exact ⟨k1,k3,k4⟩))
  (first
   | (go_at_call 31;refine (zAo _ r.kept.log _ 0 ?_).mono ?_;exact Ha.out.1.own.is.log.drewN 1;rintro en x1 ⟨⟨v1,rfl,hu⟩,k1'⟩
      refine use (P:=Below Wd.heap.size Wd x1) ?_ ?_
      exact (below_drewN (mG _ _) 1).trans k1'
      intro nn1
      have He:=Ha.out.1.below nn1
      obtain ⟨Au,cu,rfl,_,_,_,_⟩:=zAk hu
      have HU:=mA (mB (zBx hu Ha.out.1.own.is.log.len Ha.out.1.own.is.log.each) (mB He (mB (Ha.out.2.2.trans (nn1.mono Hl)) nn1)))
      have Hu:base<=x1.heap.size:=mD Hl nn1.size
      have e1:=cW nn1 dk k1
      have e3:=cW nn1 dk k3
      have e4:=cW nn1 dk k4
      clear nn1 hu k1' He)
   | (go_at_call 40;refine (zIi Au r.kept.log.length cu { Scu.msg0 with kind:=4,normal:=r.kept.normal,commit:=r.kept.commit,log:=r.kept.log } tt x1 base gw gr r (.slice A n c) hv wv gv nv ov ms css HU.out.2.1 Hu Hh.out.2 HU.out.1 ?_).mono ?_;(exact mD (Nat.mul_le_mul_right 80 (by omega)) HM.out);rintro en x2 ⟨rfl,⟨ov2,css2,Hp,Hq⟩,Hr,_⟩
      have Hs:=(Hq _ _ _ (Ha.out.2.1.same HU.out.2.2.2) NB.out.1 NB.out.2).1
      have HX:=mA (mB Hp.e (HU.out.2.2.1.trans Hr))
      obtain ⟨-,f1,-,f3,f4⟩:=cz5 Hs
      clear Hp Hr Hq Hs))
 all_goals
  rename_i hHeld
  clear hHeld
  go_wp2
  go_end0
  rw [Hh.out.1]
  exact ⟨rfl,HX.out⟩
end Go.Proofs.YtjnjhmkgfjikfaaDoor
