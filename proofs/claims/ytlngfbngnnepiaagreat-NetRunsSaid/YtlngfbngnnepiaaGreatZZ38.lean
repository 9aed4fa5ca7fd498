/- Part 38: words and walks under the laws of the whole. -/
import Derived.Deep.DeepCutAuto
import Derived.Test.YtlngfbngnnepiaaGreatZZ9
set_option linter.unusedVariables false
set_option linter.unusedSimpArgs false
set_option maxHeartbeats 4000000
set_option maxRecDepth 100000
namespace Go.Proofs.YtlngfbngnnepiaaGreat
open Go.RowKit
def DidRet (w:World) (base:Nat) (q:Scu.Volume × Scu.Reply × Int) (e:Ending):Prop :=
 ∃ nu su,e=.returned (.tuple #[.agg #[nu,su],.agg #[.int .i64 q.2.1.code,.int .i64 q.2.1.n,.string q.2.1.data],.int .i64 q.2.2])/\OwnVol w base nu su q.1
theorem zIt (w:World) (base:Nat) (e:Int):DidRet w base (Scu.vol0,Scu.reply0,e) (.returned (.tuple #[.agg #[.slice none 0 0,.slice none 0 0],.agg #[.int .i64 0,.int .i64 0,.string ⟨#[]⟩],.int .i64 e])) :=
 ⟨_,_,rfl,OwnVol.zero_ _ _⟩
section
variable {v:Scu.Volume} {o:Scu.Op}
theorem vd1 (h:Scu.volFault v≠0):Scu.volDo v o=(Scu.vol0,Scu.reply0,Scu.volFault v):=if_pos h
theorem vd2 (h:¬ Scu.volFault v≠0) (h2:Scu.opFault o≠0):Scu.volDo v o=(Scu.vol0,Scu.reply0,Scu.opFault o):=by unfold Scu.volDo;rw [if_neg h,if_pos h2]
theorem vd3 (h:¬ Scu.volFault v≠0) (h2:¬ Scu.opFault o≠0):Scu.volDo v o=((Scu.doIt v o).1,(Scu.doIt v o).2,0):=by unfold Scu.volDo;rw [if_neg h,if_neg h2]
theorem zAu (h:¬ Scu.volFault v≠0):v.now.length=6/\v.snaps.length<=3/\(∀ s ∈ v.now,s.size<=8)/\∀ l ∈ v.snaps,l.length=6/\∀ s ∈ l,s.size<=8:=by
 unfold Scu.volFault Scu.volOk Scu.sectorsOk at h;split at h
 ·rename_i hx
  simp only [Bool.and_eq_true,beq_iff_eq,List.all_eq_true,decide_eq_true_eq] at hx
  exact ⟨hx.1.1.1,hx.1.2,hx.1.1.2,hx.2⟩
 exact absurd (by decide) h
end
structure Four (w:World) (nv sv:Value) (ki a m:Int) (d:Scu.Str) (W:World):Prop where
 b0:Blk W w.heap.size 88 #[nv,sv]
 b1:Blk W (w.heap.size+1) 51 #[.int .i64 ki,.int .i64 a,.int .i64 m,.string d]
 b2:Blk W (w.heap.size+1+1) 88 #[.slice none 0 0,.slice none 0 0]
 b3:Blk W (w.heap.size+1+1+1) 69 #[.int .i64 0,.int .i64 0,.string ⟨#[]⟩]
 low:Below w.heap.size w W
theorem Four.below {w W W':World} {nv sv:Value} {ki a m:Int} {d:Scu.Str} (h:Four w nv sv ki a m d W) (hb:Below W.heap.size W W'):Four w nv sv ki a m d W' :=
 ⟨h.b0.same hb,h.b1.same hb,h.b2.same hb,h.b3.same hb,h.low.trans (hb.mono h.low.size)⟩
theorem Four.start (w:World) (A0:Option Addr) (n0 c0:Nat) (A1:Option Addr) (n1 c1:Nat) (ki a m:Int) (d:Scu.Str):Four w (.slice A0 n0 c0) (.slice A1 n1 c1) ki a m d ((((w.alloc (.cells #[.slice A0 n0 c0,.slice A1 n1 c1] 88)).alloc (.cells #[.int .i64 ki,.int .i64 a,.int .i64 m,.string d] 51)).alloc (.cells #[.slice none 0 0,.slice none 0 0] 88)).alloc (.cells #[.int .i64 0,.int .i64 0,.string ⟨#[]⟩] 69)) :=
 ⟨(((Blk.new w _ _).alloc _).alloc _).alloc _,((Blk.new' (by simp)).alloc _).alloc _,(Blk.new' (by simp)).alloc _,Blk.new' (by simp),(((zAa w _).alloc (by simp) _).alloc (by simp;omega) _).alloc (by simp;omega) _⟩
theorem zDt (o:Scu.Op) (w:World) (h:Scu.opFault o=0) :
 Calls Tryz.prog 47 #[.agg #[.int .i64 o.kind,.int .i64 o.at_,.int .i64 o.snap,.string o.data]] w fun e w'=>e=.returned (.int .i64 0)/\Below w.heap.size w w':=by
 have:=zGu o w;rw [h] at this;exact this
open Go.RowKit
theorem zUs (A0:Option Addr) (n0 c0:Nat) (A1:Option Addr) (n1 c1:Nat) (x:Scu.Volume) (ki a m:Int) (d:Scu.Str) (w:World) (B:Nat) (hv:IsVolume w B (.slice A0 n0 c0) (.slice A1 n1 c1) x) (hf:Scu.volFault x≠0) :
 Calls Tryz.prog 114 #[.agg #[.slice A0 n0 c0,.slice A1 n1 c1],.agg #[.int .i64 ki,.int .i64 a,.int .i64 m,.string d]] w fun e w'=>DidRet w' w.heap.size (Scu.vol0,Scu.reply0,Scu.volFault x) e/\Below w.heap.size w w':=by
 have HV:=mA hv;have Hf:(Scu.volFault x != 0)=true:=by simpa using hf
 clear hf hv;go_enter Tryz.func114,Tryz.ntmps114
 go_wp2_with fail
 refine (zCd _ _ x _ B ((((HV.out.alloc _).alloc _).alloc _).alloc _)).mono ?_;rintro e w1 ⟨rfl,h1⟩;have Ha:=(Four.start w A0 n0 c0 A1 n1 c1 _ _ _ d).below h1;have He:w.heap.size+1+1+1 < w1.heap.size:=Ha.b3.lt;have Hb:w.heap.size < w1.heap.size:=by omega
 have Hc:w.heap.size+1 < w1.heap.size:=by omega
 have Hd:w.heap.size+1+1 < w1.heap.size:=by omega
 obtain ⟨z0,z1⟩:=cz2 Ha.b0;obtain ⟨z2,z3,z4,z5⟩:=cz4 Ha.b1;obtain ⟨z6,z7⟩:=cz2 Ha.b2;obtain ⟨z8,z9,zx⟩:=cz3 Ha.b3;have zu:=Ha.b0.frozen;have zv:=Ha.b2.frozen;have zw:=Ha.b3.frozen;go_wp2
 refine bodyPost_ret (v:=.tuple #[.agg #[.slice none 0 0,.slice none 0 0],.agg #[.int .i64 0,.int .i64 0,.string ⟨#[]⟩],.int .i64 (Scu.volFault x)]) (by simp [results,Tryz.results114,go_sem,z6,z7,z8,z9,zx]) rfl ?_;exact ⟨zIt _ _ _,zBr Ha.low (by omega) (by omega) _ _ _ _ _⟩
theorem zUt (A0:Option Addr) (n0 c0:Nat) (A1:Option Addr) (n1 c1:Nat) (x:Scu.Volume) (ki a m:Int) (d:Scu.Str) (w:World) (B:Nat) (hv:IsVolume w B (.slice A0 n0 c0) (.slice A1 n1 c1) x) (hf:¬ Scu.volFault x≠0) (ho:Scu.opFault ⟨ki,a,m,d⟩≠0) :
 Calls Tryz.prog 114 #[.agg #[.slice A0 n0 c0,.slice A1 n1 c1],.agg #[.int .i64 ki,.int .i64 a,.int .i64 m,.string d]] w fun e w'=>DidRet w' w.heap.size (Scu.vol0,Scu.reply0,Scu.opFault ⟨ki,a,m,d⟩) e/\Below w.heap.size w w':=by
 have HV:=mA hv;have Hl:(Scu.volFault x != 0)=false:=by simpa using hf
 have Hm:(Scu.opFault ⟨ki,a,m,d⟩ != 0)=true:=by simpa using ho
 have Hi:=mA (fun W=>zGu ⟨ki,a,m,d⟩ W);clear hf ho hv;go_enter Tryz.func114,Tryz.ntmps114
 go_wp2_with fail
 refine (zCd _ _ x _ B ((((HV.out.alloc _).alloc _).alloc _).alloc _)).mono ?_;rintro e w1 ⟨rfl,h1⟩;have Ha:=(Four.start w A0 n0 c0 A1 n1 c1 _ _ _ d).below h1;have Hj:w.heap.size+1+1+1 < w1.heap.size:=Ha.b3.lt;have Hc:w.heap.size < w1.heap.size:=by omega
 have Hd:w.heap.size+1 < w1.heap.size:=by omega
 have He:w.heap.size+1+1 < w1.heap.size:=by omega
 obtain ⟨z0,z1⟩:=cz2 Ha.b0;obtain ⟨z2,z3,z4,z5⟩:=cz4 Ha.b1;obtain ⟨z6,z7⟩:=cz2 Ha.b2;obtain ⟨z8,z9,zx⟩:=cz3 Ha.b3;have zu:=Ha.b0.frozen;have zv:=Ha.b2.frozen;have zw:=Ha.b3.frozen;go_wp2_with fail
 refine (Hi.out _).mono ?_;rintro e w2 ⟨rfl,h2⟩;have Hb:=Ha.below h2;have Hk:w.heap.size+1+1+1 < w2.heap.size:=Hb.b3.lt;have Hf:w.heap.size < w2.heap.size:=by omega
 have Hg:w.heap.size+1 < w2.heap.size:=by omega
 have Hh:w.heap.size+1+1 < w2.heap.size:=by omega
 obtain ⟨y0,y1⟩:=cz2 Hb.b0;obtain ⟨y2,y3,y4,y5⟩:=cz4 Hb.b1;obtain ⟨y6,y7⟩:=cz2 Hb.b2;obtain ⟨y8,y9,yx⟩:=cz3 Hb.b3;have yu:=Hb.b0.frozen;have yv:=Hb.b2.frozen;have yw:=Hb.b3.frozen;go_wp2
 refine bodyPost_ret (v:=.tuple #[.agg #[.slice none 0 0,.slice none 0 0],.agg #[.int .i64 0,.int .i64 0,.string ⟨#[]⟩],.int .i64 (Scu.opFault ⟨ki,a,m,d⟩)]) (by simp [results,Tryz.results114,go_sem,y6,y7,y8,y9,yx]) rfl ?_;exact ⟨zIt _ _ _,zBr Hb.low (by omega) (by omega) _ _ _ _ _⟩
theorem zL5 {P:Prop} (h:P:=by
 have HV:=mA hv;have Km:(Scu.volFault x != 0)=false:=by simpa using hf
 have Hi:=Decidable.not_not.1 ho;have Hu:=mA (fun W=>zDt _ W Hi);obtain ⟨Hv,Kn,Hw,Hj⟩:=zAu hf;have Ko:=mA Hj;clear hv hf ho Hi Hw Hj;have Hx:=mA Hh;clear Hh;go_enter Tryz.func114,Tryz.ntmps114
 go_wp2_with fail
 refine (zCd _ _ x _ B ((((HV.out.alloc _).alloc _).alloc _).alloc _)).mono ?_;rintro e w1 ⟨rfl,h1⟩;have Hb:=(Four.start w A0 n0 c0 A1 n1 c1 _ _ _ d).below h1;have Hy:w.heap.size+1+1+1 < w1.heap.size:=Hb.b3.lt;have Hk:w.heap.size < w1.heap.size:=by omega
 have Hl:w.heap.size+1 < w1.heap.size:=by omega
 have Hm:w.heap.size+1+1 < w1.heap.size:=by omega
 obtain ⟨z0,z1⟩:=cz2 Hb.b0;obtain ⟨z2,z3,z4,z5⟩:=cz4 Hb.b1;obtain ⟨z6,z7⟩:=cz2 Hb.b2;obtain ⟨z8,z9,zx⟩:=cz3 Hb.b3;have zu:=Hb.b0.frozen;have zv:=Hb.b2.frozen;have zw:=Hb.b3.frozen;go_wp2_with fail
 refine (Hu.out _).mono ?_;rintro e w2 ⟨rfl,h2⟩;have Ha:=Hb.below h2;have Hz:w.heap.size+1+1+1 < w2.heap.size:=Ha.b3.lt;have Hn:w.heap.size < w2.heap.size:=by omega
 have Ho:w.heap.size+1 < w2.heap.size:=by omega
 have Hp:w.heap.size+1+1 < w2.heap.size:=by omega
 obtain ⟨y0,y1⟩:=cz2 Ha.b0;obtain ⟨y2,y3,y4,y5⟩:=cz4 Ha.b1;obtain ⟨y6,y7⟩:=cz2 Ha.b2;obtain ⟨y8,y9,yx⟩:=cz3 Ha.b3;have yu:=Ha.b0.frozen;have yv:=Ha.b2.frozen;have yw:=Ha.b3.frozen;go_wp2_with fail
 refine (zCu _ _ x _ B (HV.out.below Ha.low)).mono ?_;rintro e w3 ⟨⟨nu,su,rfl,hu⟩,h3⟩;obtain ⟨⟨A2,c2,_,rfl,_,_,_,_⟩,_⟩:=hu.is.snaps;have He:=hu.now;rw [Hv] at He;obtain ⟨g,c,cur,rfl,hg,Hf,Hq⟩:=zCj He (by omega);have Hc:=Ha.below h3;have Ka:w.heap.size+1+1+1 < w3.heap.size:=Hc.b3.lt;have Hr:w.heap.size < w3.heap.size:=by omega
 have Hs:w.heap.size+1 < w3.heap.size:=by omega
 have Ht:w.heap.size+1+1 < w3.heap.size:=by omega
 obtain ⟨x0,x1⟩:=cz2 Hc.b0;obtain ⟨x2,x3,x4,x5⟩:=cz4 Hc.b1;obtain ⟨x6,x7⟩:=cz2 Hc.b2;obtain ⟨x8,x9,xx⟩:=cz3 Hc.b3;have xu:=Hc.b0.frozen;have xv:=Hc.b2.frozen;have xw:=Hc.b3.frozen;have Kp:=Hf.frozen;have Kq:w3.cell? ⟨g,an,none⟩=some (.string (x.now[an]'(by omega))):=by rw [Hq an (by omega),List.getElem?_map,mH (by omega)];rfl
 have Kb:=Hf.lt;have Kr:(an:Int) < 6:=by omega
 have Hg:=Ha.low.size;have Ks:w.heap.size+1+1+1 < g:=by omega
 have Kc:g≠w.heap.size:=by omega
 have Kd:=h3.size;have HU:=mA hu;have Hd:=mA Hc;clear h1 h2 h3 Hb Ha Hc He Hq hu Hf hg;go_wp2_with fail
 go_region
 rename_i hK
 refine hK _ _ (Go.wp_ret ?_);have hO:=(HU.out.same (Same.sets2 (B:=0) Hd.out.b0 (mE _) (by decide) (.slice (some ⟨g,0,none⟩) 6 c) (.slice A2 x.snaps.length c2))).put an d Hx.out;have Ke:=((Hd.out.b2.far (p:=⟨w.heap.size,0,none⟩) (by simp;omega) (.slice (some ⟨g,0,none⟩) 6 c)).far (p:=⟨w.heap.size,1,none⟩) (by simp;omega) (.slice A2 x.snaps.length c2)).far (p:=⟨g,an,none⟩) (by simp;omega) (.string d);have Kf:=((Hd.out.b3.far (p:=⟨w.heap.size,0,none⟩) (by simp;omega) (.slice (some ⟨g,0,none⟩) 6 c)).far (p:=⟨w.heap.size,1,none⟩) (by simp;omega) (.slice A2 x.snaps.length c2)).far (p:=⟨g,an,none⟩) (by simp;omega) (.string d);obtain ⟨Kg,Kh,Ki⟩:=zEc Ke Kf (by omega) (.slice (some ⟨g,0,none⟩) 6 c) (.slice A2 x.snaps.length c2) (.int .i64 0) (.int .i64 0) (.string ⟨#[]⟩);have Kj:=(Kg.alloc (.cells #[.int .i64 0,.int .i64 0,.string ⟨#[]⟩] 69)).drew;have Kk:=(Kh.alloc (.cells #[.int .i64 0,.int .i64 0,.string ⟨#[]⟩] 69)).drew;obtain ⟨r0,r1⟩:=cz2 Kj;obtain ⟨r2,r3,r4⟩:=cz3 Kk;refine bodyPost_ret (v:=.tuple #[.agg #[(.slice (some ⟨g,0,none⟩) 6 c),(.slice A2 x.snaps.length c2)],.agg #[.int .i64 0,.int .i64 0,.string ⟨#[]⟩],.int .i64 0]) (by simp [results,Tryz.results114,go_sem,r0,r1,r2,r3,r4]) rfl ?_;refine ⟨⟨_,_,rfl,?_⟩,?_⟩
 ·exact (((hO.base_ Hg).same Ki).alloc _).below (mG _ _).drew
 refine ((zBr ?_ (by omega) (by omega) _ _ _ _ _).alloc ?_ _).drew
 ·exact ((Hd.out.low.setCell (p:=⟨w.heap.size,0,none⟩) (mC _) _).setCell (p:=⟨w.heap.size,1,none⟩) (mC _) _).setCell (p:=⟨g,an,none⟩) (by show w.heap.size<=g;omega) _
 have:=Hd.out.low.size;simpa [World.setCell] using this):P:=h
theorem zUu (A0:Option Addr) (n0 c0:Nat) (A1:Option Addr) (n1 c1:Nat) (x:Scu.Volume) (an:Nat) (d:Scu.Str) (w:World) (B:Nat) (hv:IsVolume w B (.slice A0 n0 c0) (.slice A1 n1 c1) x)
 (hf:¬ Scu.volFault x≠0) (ho:¬ Scu.opFault ⟨1,an,0,d⟩≠0) (Kl:an < 6) (Hh:d.size<=R47) :
 Calls Tryz.prog 114 #[.agg #[.slice A0 n0 c0,.slice A1 n1 c1],.agg #[.int .i64 1,.int .i64 an,.int .i64 0,.string d]] w fun e w'=>DidRet w' w.heap.size ((⟨x.now.set an d,x.snaps⟩:Scu.Volume),Scu.reply0,0) e/\Below w.heap.size w w':=by
 exact zL5
theorem zUv (A0:Option Addr) (n0 c0:Nat) (A1:Option Addr) (n1 c1:Nat) (x:Scu.Volume) (an:Nat) (d:Scu.Str) (w:World) (B:Nat) (hv:IsVolume w B (.slice A0 n0 c0) (.slice A1 n1 c1) x)
 (hf:¬ Scu.volFault x≠0) (ho:¬ Scu.opFault ⟨2,an,0,d⟩≠0) (Kl:an < 6) (Hh:d.size<=R47) :
 Calls Tryz.prog 114 #[.agg #[.slice A0 n0 c0,.slice A1 n1 c1],.agg #[.int .i64 2,.int .i64 an,.int .i64 0,.string d]] w fun e w'=>DidRet w' w.heap.size ((⟨x.now.set an d,x.snaps⟩:Scu.Volume),Scu.reply0,0) e/\Below w.heap.size w w':=by
 exact zL5
theorem zM5 {P:Prop} (h:P:=by
 refine ((zBr ?_ (by omega) (by omega) _ _ _ _ _).alloc ?_ _).drew
 ·exact (Hd.out.low.setCell (p:=⟨w.heap.size,0,none⟩) (mC _) _).setCell (p:=⟨w.heap.size,1,none⟩) (mC _) _
 have:=Hd.out.low.size;simpa [World.setCell] using this):P:=h
theorem zUw (A0:Option Addr) (n0 c0:Nat) (A1:Option Addr) (n1 c1:Nat) (x:Scu.Volume) (an:Nat) (d:Scu.Str) (w:World) (B:Nat) (hv:IsVolume w B (.slice A0 n0 c0) (.slice A1 n1 c1) x)
 (hf:¬ Scu.volFault x≠0) (ho:¬ Scu.opFault ⟨3,an,0,d⟩≠0) (Kk:an < 6) :
 Calls Tryz.prog 114 #[.agg #[.slice A0 n0 c0,.slice A1 n1 c1],.agg #[.int .i64 3,.int .i64 an,.int .i64 0,.string d]] w fun e w'=>DidRet w' w.heap.size (x,(⟨0,0,x.now.getD an Scu.str0⟩:Scu.Reply),0) e/\Below w.heap.size w w':=by
 have HV:=mA hv;have Kl:(Scu.volFault x != 0)=false:=by simpa using hf
 have Hh:=Decidable.not_not.1 ho;have Hu:=mA (fun W=>zDt _ W Hh);obtain ⟨Hv,Km,Hw,Hi⟩:=zAu hf;have Kn:=mA Hi;clear hv hf ho Hh Hw Hi;have Hj:x.now.getD an Scu.str0=x.now[an]'(by omega):=by
  rw [mI,mH (by omega)];rfl
 rw [Hj];clear Hj;go_enter Tryz.func114,Tryz.ntmps114
 go_wp2_with fail
 refine (zCd _ _ x _ B ((((HV.out.alloc _).alloc _).alloc _).alloc _)).mono ?_;rintro e w1 ⟨rfl,h1⟩;have Hb:=(Four.start w A0 n0 c0 A1 n1 c1 _ _ _ d).below h1;have Hx:w.heap.size+1+1+1 < w1.heap.size:=Hb.b3.lt;have Hk:w.heap.size < w1.heap.size:=by omega
 have Hl:w.heap.size+1 < w1.heap.size:=by omega
 have Hm:w.heap.size+1+1 < w1.heap.size:=by omega
 obtain ⟨z0,z1⟩:=cz2 Hb.b0;obtain ⟨z2,z3,z4,z5⟩:=cz4 Hb.b1;obtain ⟨z6,z7⟩:=cz2 Hb.b2;obtain ⟨z8,z9,zx⟩:=cz3 Hb.b3;have zu:=Hb.b0.frozen;have zv:=Hb.b2.frozen;have zw:=Hb.b3.frozen;go_wp2_with fail
 refine (Hu.out _).mono ?_;rintro e w2 ⟨rfl,h2⟩;have Ha:=Hb.below h2;have Hy:w.heap.size+1+1+1 < w2.heap.size:=Ha.b3.lt;have Hn:w.heap.size < w2.heap.size:=by omega
 have Ho:w.heap.size+1 < w2.heap.size:=by omega
 have Hp:w.heap.size+1+1 < w2.heap.size:=by omega
 obtain ⟨y0,y1⟩:=cz2 Ha.b0;obtain ⟨y2,y3,y4,y5⟩:=cz4 Ha.b1;obtain ⟨y6,y7⟩:=cz2 Ha.b2;obtain ⟨y8,y9,yx⟩:=cz3 Ha.b3;have yu:=Ha.b0.frozen;have yv:=Ha.b2.frozen;have yw:=Ha.b3.frozen;go_wp2_with fail
 refine (zCu _ _ x _ B (HV.out.below Ha.low)).mono ?_;rintro e w3 ⟨⟨nu,su,rfl,hu⟩,h3⟩;obtain ⟨⟨A2,c2,_,rfl,_,_,_,_⟩,_⟩:=hu.is.snaps;have He:=hu.now;rw [Hv] at He;obtain ⟨g,c,cur,rfl,hg,Hf,Hq⟩:=zCj He (by omega);have Hc:=Ha.below h3;have Hz:w.heap.size+1+1+1 < w3.heap.size:=Hc.b3.lt;have Hr:w.heap.size < w3.heap.size:=by omega
 have Hs:w.heap.size+1 < w3.heap.size:=by omega
 have Ht:w.heap.size+1+1 < w3.heap.size:=by omega
 obtain ⟨x0,x1⟩:=cz2 Hc.b0;obtain ⟨x2,x3,x4,x5⟩:=cz4 Hc.b1;obtain ⟨x6,x7⟩:=cz2 Hc.b2;obtain ⟨x8,x9,xx⟩:=cz3 Hc.b3;have xu:=Hc.b0.frozen;have xv:=Hc.b2.frozen;have xw:=Hc.b3.frozen;have Ko:=Hf.frozen;have Kp:w3.cell? ⟨g,an,none⟩=some (.string (x.now[an]'(by omega))):=by rw [Hq an (by omega),List.getElem?_map,mH (by omega)];rfl
 have Ka:=Hf.lt;have Kq:(an:Int) < 6:=by omega
 have Hg:=Ha.low.size;have Kr:w.heap.size+1+1+1 < g:=by omega
 have Kb:g≠w.heap.size:=by omega
 have Kc:=h3.size;have HU:=mA hu;have Hd:=mA Hc;clear h1 h2 h3 Hb Ha Hc He Hq hu Hf hg;go_wp2_with fail
 go_region
 rename_i hK
 refine hK _ _ (Go.wp_ret ?_);have hO:=HU.out.same (Same.sets2 (B:=0) Hd.out.b0 (mE _) (by decide) (.slice (some ⟨g,0,none⟩) 6 c) (.slice A2 x.snaps.length c2));have Kd:=(Hd.out.b2.far (p:=⟨w.heap.size,0,none⟩) (by simp;omega) (.slice (some ⟨g,0,none⟩) 6 c)).far (p:=⟨w.heap.size,1,none⟩) (by simp;omega) (.slice A2 x.snaps.length c2);have Ke:=(Hd.out.b3.far (p:=⟨w.heap.size,0,none⟩) (by simp;omega) (.slice (some ⟨g,0,none⟩) 6 c)).far (p:=⟨w.heap.size,1,none⟩) (by simp;omega) (.slice A2 x.snaps.length c2);obtain ⟨Kf,Kg,Kh⟩:=zEc Kd Ke (by omega) (.slice (some ⟨g,0,none⟩) 6 c) (.slice A2 x.snaps.length c2) (.int .i64 0) (.int .i64 0) (.string (x.now[an]'(by omega)));have Ki:=(Kf.alloc (.cells #[.int .i64 0,.int .i64 0,.string (x.now[an]'(by omega))] 69)).drew;have Kj:=(Kg.alloc (.cells #[.int .i64 0,.int .i64 0,.string (x.now[an]'(by omega))] 69)).drew;obtain ⟨r0,r1⟩:=cz2 Ki;obtain ⟨r2,r3,r4⟩:=cz3 Kj;refine bodyPost_ret (v:=.tuple #[.agg #[(.slice (some ⟨g,0,none⟩) 6 c),(.slice A2 x.snaps.length c2)],.agg #[.int .i64 0,.int .i64 0,.string (x.now[an]'(by omega))],.int .i64 0]) (by simp [results,Tryz.results114,go_sem,r0,r1,r2,r3,r4]) rfl ?_;refine ⟨⟨_,_,rfl,(((hO.base_ Hg).same Kh).alloc _).below (mG _ _).drew⟩,?_⟩;exact zM5
theorem zUx (A0:Option Addr) (n0 c0:Nat) (A1:Option Addr) (n1 c1:Nat) (x:Scu.Volume) (an sn:Nat) (d:Scu.Str) (w:World) (B:Nat) (hv:IsVolume w B (.slice A0 n0 c0) (.slice A1 n1 c1) x)
 (hf:¬ Scu.volFault x≠0) (ho:¬ Scu.opFault ⟨3,an,(sn:Int)+1,d⟩≠0) (Km:an < 6) (Ht:x.snaps.length < sn+1) :
 Calls Tryz.prog 114 #[.agg #[.slice A0 n0 c0,.slice A1 n1 c1],.agg #[.int .i64 3,.int .i64 an,.int .i64 ((sn:Int)+1),.string d]] w fun e w'=>DidRet w' w.heap.size (x,(⟨6,0,Scu.str0⟩:Scu.Reply),0) e/\Below w.heap.size w w':=by
 have HV:=mA hv;have Kn:(Scu.volFault x != 0)=false:=by simpa using hf
 have Hh:=Decidable.not_not.1 ho;have Hu:=mA (fun W=>zDt _ W Hh);obtain ⟨Hv,Ko,Hw,Hi⟩:=zAu hf;have Kp:=mA Hi;clear hv hf ho Hh Hw Hi;have Hx:(x.snaps.length:Int) < (sn:Int)+1:=by omega
 have Hy:((sn:Int)+1 == 0)=false:=by simp;omega
 clear Ht;go_enter Tryz.func114,Tryz.ntmps114
 go_wp2_with fail
 refine (zCd _ _ x _ B ((((HV.out.alloc _).alloc _).alloc _).alloc _)).mono ?_;rintro e w1 ⟨rfl,h1⟩;have Hb:=(Four.start w A0 n0 c0 A1 n1 c1 _ _ _ d).below h1;have Hz:w.heap.size+1+1+1 < w1.heap.size:=Hb.b3.lt;have Hj:w.heap.size < w1.heap.size:=by omega
 have Hk:w.heap.size+1 < w1.heap.size:=by omega
 have Hl:w.heap.size+1+1 < w1.heap.size:=by omega
 obtain ⟨z0,z1⟩:=cz2 Hb.b0;obtain ⟨z2,z3,z4,z5⟩:=cz4 Hb.b1;obtain ⟨z6,z7⟩:=cz2 Hb.b2;obtain ⟨z8,z9,zx⟩:=cz3 Hb.b3;have zu:=Hb.b0.frozen;have zv:=Hb.b2.frozen;have zw:=Hb.b3.frozen;go_wp2_with fail
 refine (Hu.out _).mono ?_;rintro e w2 ⟨rfl,h2⟩;have Ha:=Hb.below h2;have Ka:w.heap.size+1+1+1 < w2.heap.size:=Ha.b3.lt;have Hm:w.heap.size < w2.heap.size:=by omega
 have Hn:w.heap.size+1 < w2.heap.size:=by omega
 have Ho:w.heap.size+1+1 < w2.heap.size:=by omega
 obtain ⟨y0,y1⟩:=cz2 Ha.b0;obtain ⟨y2,y3,y4,y5⟩:=cz4 Ha.b1;obtain ⟨y6,y7⟩:=cz2 Ha.b2;obtain ⟨y8,y9,yx⟩:=cz3 Ha.b3;have yu:=Ha.b0.frozen;have yv:=Ha.b2.frozen;have yw:=Ha.b3.frozen;go_wp2_with fail
 refine (zCu _ _ x _ B (HV.out.below Ha.low)).mono ?_;rintro e w3 ⟨⟨nu,su,rfl,hu⟩,h3⟩;obtain ⟨⟨A2,c2,_,rfl,_,_,_,_⟩,_⟩:=hu.is.snaps;have He:=hu.now;rw [Hv] at He;obtain ⟨g,c,cur,rfl,hg,Hf,Hp⟩:=zCj He (by omega);have Hc:=Ha.below h3;have Kb:w.heap.size+1+1+1 < w3.heap.size:=Hc.b3.lt;have Hq:w.heap.size < w3.heap.size:=by omega
 have Hr:w.heap.size+1 < w3.heap.size:=by omega
 have Hs:w.heap.size+1+1 < w3.heap.size:=by omega
 obtain ⟨x0,x1⟩:=cz2 Hc.b0;obtain ⟨x2,x3,x4,x5⟩:=cz4 Hc.b1;obtain ⟨x6,x7⟩:=cz2 Hc.b2;obtain ⟨x8,x9,xx⟩:=cz3 Hc.b3;have xu:=Hc.b0.frozen;have xv:=Hc.b2.frozen;have xw:=Hc.b3.frozen;have Kq:=Hf.frozen;have Kr:w3.cell? ⟨g,an,none⟩=some (.string (x.now[an]'(by omega))):=by rw [Hp an (by omega),List.getElem?_map,mH (by omega)];rfl
 have Kc:=Hf.lt;have Ks:(an:Int) < 6:=by omega
 have Hg:=Ha.low.size;have Kt:w.heap.size+1+1+1 < g:=by omega
 have Kd:g≠w.heap.size:=by omega
 have Ke:=h3.size;have HU:=mA hu;have Hd:=mA Hc;clear h1 h2 h3 Hb Ha Hc He Hp hu Hf hg;go_wp2_with fail
 go_region
 rename_i hK
 refine hK _ _ (Go.wp_ret ?_);have hO:=HU.out.same (Same.sets2 (B:=0) Hd.out.b0 (mE _) (by decide) (.slice (some ⟨g,0,none⟩) 6 c) (.slice A2 x.snaps.length c2));have Kf:=(Hd.out.b2.far (p:=⟨w.heap.size,0,none⟩) (by simp;omega) (.slice (some ⟨g,0,none⟩) 6 c)).far (p:=⟨w.heap.size,1,none⟩) (by simp;omega) (.slice A2 x.snaps.length c2);have Kg:=(Hd.out.b3.far (p:=⟨w.heap.size,0,none⟩) (by simp;omega) (.slice (some ⟨g,0,none⟩) 6 c)).far (p:=⟨w.heap.size,1,none⟩) (by simp;omega) (.slice A2 x.snaps.length c2);obtain ⟨Kh,Ki,Kj⟩:=zEc Kf Kg (by omega) (.slice (some ⟨g,0,none⟩) 6 c) (.slice A2 x.snaps.length c2) (.int .i64 6) (.int .i64 0) (.string ⟨#[]⟩);have Kk:=(Kh.alloc (.cells #[.int .i64 6,.int .i64 0,.string ⟨#[]⟩] 69)).drew;have Kl:=(Ki.alloc (.cells #[.int .i64 6,.int .i64 0,.string ⟨#[]⟩] 69)).drew;obtain ⟨r0,r1⟩:=cz2 Kk;obtain ⟨r2,r3,r4⟩:=cz3 Kl;refine bodyPost_ret (v:=.tuple #[.agg #[(.slice (some ⟨g,0,none⟩) 6 c),(.slice A2 x.snaps.length c2)],.agg #[.int .i64 6,.int .i64 0,.string ⟨#[]⟩],.int .i64 0]) (by simp [results,Tryz.results114,go_sem,r0,r1,r2,r3,r4]) rfl ?_;refine ⟨⟨_,_,rfl,(((hO.base_ Hg).same Kj).alloc _).below (mG _ _).drew⟩,?_⟩;exact zM5
theorem zPh {w:World} {b q i:Nat} {v:Value} (h:w.cell? ⟨q,i,none⟩=some v) (hq:q < w.heap.size) (Ha:q≠b) (a c:Value) (o:Obj) :
 (((w.setCell ⟨b,0,none⟩ a).setCell ⟨b,1,none⟩ c).alloc o).cell? ⟨q,i,none⟩=some v:=by
 refine ((zAa _ o).cell (p:=⟨q,i,none⟩) (by simpa [World.setCell] using hq)).trans ?_;refine (World.cell?_of_block (Below.heap_setCell _ ⟨b,1,none⟩ c q Ha)).trans ?_;exact (World.cell?_of_block (Below.heap_setCell _ ⟨b,0,none⟩ a q Ha)).trans h
theorem zUy (A0:Option Addr) (n0 c0:Nat) (A1:Option Addr) (n1 c1:Nat) (x:Scu.Volume) (an sn:Nat) (d:Scu.Str) (w:World) (B:Nat) (hv:IsVolume w B (.slice A0 n0 c0) (.slice A1 n1 c1) x)
 (hf:¬ Scu.volFault x≠0) (ho:¬ Scu.opFault ⟨3,an,(sn:Int)+1,d⟩≠0) (Vu:an < 6) (Hr:sn < x.snaps.length) :
 Calls Tryz.prog 114 #[.agg #[.slice A0 n0 c0,.slice A1 n1 c1],.agg #[.int .i64 3,.int .i64 an,.int .i64 ((sn:Int)+1),.string d]] w fun e w'=>DidRet w' w.heap.size (x,(⟨0,0,(x.snaps.getD sn []).getD an Scu.str0⟩:Scu.Reply),0) e/\Below w.heap.size w w':=by
 have HV:=mA hv;have Vv:(Scu.volFault x != 0)=false:=by simpa using hf
 have Kg:=Decidable.not_not.1 ho;have Kw:=mA (fun W=>zDt _ W Kg);obtain ⟨Kx,Vw,Ky,Kh⟩:=zAu hf;have Kz:=mA Kh;clear hv hf ho Kg Ky Kh;have Va:(sn:Int)+1<=(x.snaps.length:Int):=by omega
 have Vb:(sn:Int) < (x.snaps.length:Int):=by omega
 have Vc:((sn:Int)+1 == 0)=false:=by simp;omega
 have h6:an < x.snaps[sn].length:=by rw [(Kz.out _ (List.getElem_mem Hr)).1];omega
 have Vx:(an:Int) < (x.snaps[sn].length:Int):=by omega
 have Ki:(x.snaps.getD sn []).getD an Scu.str0=x.snaps[sn][an]:=by
  rw [mI (l:=x.snaps),mH Hr,Option.getD_some,mI,mH h6];rfl
 rw [Ki];clear Ki;go_enter Tryz.func114,Tryz.ntmps114
 go_wp2_with fail
 refine (zCd _ _ x _ B ((((HV.out.alloc _).alloc _).alloc _).alloc _)).mono ?_;rintro e w1 ⟨rfl,h1⟩;have Hb:=(Four.start w A0 n0 c0 A1 n1 c1 _ _ _ d).below h1;have Vd:w.heap.size+1+1+1 < w1.heap.size:=Hb.b3.lt;have Kj:w.heap.size < w1.heap.size:=by omega
 have Kk:w.heap.size+1 < w1.heap.size:=by omega
 have Kl:w.heap.size+1+1 < w1.heap.size:=by omega
 obtain ⟨z0,z1⟩:=cz2 Hb.b0;obtain ⟨z2,z3,z4,z5⟩:=cz4 Hb.b1;obtain ⟨z6,z7⟩:=cz2 Hb.b2;obtain ⟨z8,z9,zx⟩:=cz3 Hb.b3;have zu:=Hb.b0.frozen;have zv:=Hb.b2.frozen;have zw:=Hb.b3.frozen;go_wp2_with fail
 refine (Kw.out _).mono ?_;rintro e w2 ⟨rfl,h2⟩;have Ha:=Hb.below h2;have Ve:w.heap.size+1+1+1 < w2.heap.size:=Ha.b3.lt;have Km:w.heap.size < w2.heap.size:=by omega
 have Kn:w.heap.size+1 < w2.heap.size:=by omega
 have Ko:w.heap.size+1+1 < w2.heap.size:=by omega
 obtain ⟨y0,y1⟩:=cz2 Ha.b0;obtain ⟨y2,y3,y4,y5⟩:=cz4 Ha.b1;obtain ⟨y6,y7⟩:=cz2 Ha.b2;obtain ⟨y8,y9,yx⟩:=cz3 Ha.b3;have yu:=Ha.b0.frozen;have yv:=Ha.b2.frozen;have yw:=Ha.b3.frozen;go_wp2_with fail
 refine (zCu _ _ x _ B (HV.out.below Ha.low)).mono ?_;rintro e w3 ⟨⟨nu,su,rfl,hu⟩,h3⟩;obtain ⟨⟨A2,c2,_,rfl,_,_,_,_⟩,_⟩:=hu.is.snaps;have Hs:=hu.now;rw [Kx] at Hs;obtain ⟨g,c,cur,rfl,hg,Ht,Kp⟩:=zCj Hs (by omega);have Hc:=Ha.below h3;have Vf:w.heap.size+1+1+1 < w3.heap.size:=Hc.b3.lt;have Kq:w.heap.size < w3.heap.size:=by omega
 have Kr:w.heap.size+1 < w3.heap.size:=by omega
 have Ks:w.heap.size+1+1 < w3.heap.size:=by omega
 obtain ⟨x0,x1⟩:=cz2 Hc.b0;obtain ⟨x2,x3,x4,x5⟩:=cz4 Hc.b1;obtain ⟨x6,x7⟩:=cz2 Hc.b2;obtain ⟨x8,x9,xx⟩:=cz3 Hc.b3;have xu:=Hc.b0.frozen;have xv:=Hc.b2.frozen;have xw:=Hc.b3.frozen;have Vy:=Ht.frozen;have Vz:w3.cell? ⟨g,an,none⟩=some (.string (x.now[an]'(by omega))):=by rw [Kp an (by omega),List.getElem?_map,mH (by omega)];rfl
 have Vg:=Ht.lt;have Ga:(an:Int) < 6:=by omega
 have Hu:=Ha.low.size;have Gb:w.heap.size+1+1+1 < g:=by omega
 have Vh:g≠w.heap.size:=by omega
 have Vi:=h3.size;have HU:=mA hu;have Hd:=mA Hc;clear h1 h2 h3 Hb Ha Hc Hs Kp hu Ht hg;obtain ⟨q1,o1,c1',p1,e1,Vj,Hg,Hh,Kt⟩:=zWs HU.out.is.snaps Hr;obtain ⟨q2,o2,c2',rfl,Hv,Hi,Hj⟩:=zWr Kt h6;have Vk:A2=some ⟨q1,o1,none⟩:=by cases e1;rfl
 subst Vk;clear e1;have Hw:q1≠w.heap.size:=Hg _ _ _ Hd.out.b0 (by decide);have Hx:q2≠w.heap.size:=Hi _ _ _ Hd.out.b0 (by decide);have Ku:=zPh Hh Vj Hw (.slice (some ⟨g,0,none⟩) 6 c) (.slice (some ⟨q1,o1,none⟩) x.snaps.length c2) (.cells #[.int .i64 0,.int .i64 0,.string ⟨#[]⟩] 69);have Kv:=zPh Hj Hv Hx (.slice (some ⟨g,0,none⟩) 6 c) (.slice (some ⟨q1,o1,none⟩) x.snaps.length c2) (.cells #[.int .i64 0,.int .i64 0,.string ⟨#[]⟩] 69);clear Hg Hi Kt Hh Hj;have hO:=(HU.out.same (Same.sets2 (B:=0) Hd.out.b0 (mE _) (by decide) (.slice (some ⟨g,0,none⟩) 6 c) (.slice (some ⟨q1,o1,none⟩) x.snaps.length c2))).alloc (.cells #[.int .i64 0,.int .i64 0,.string ⟨#[]⟩] 69);have Ho:Blk _ w.heap.size 88 #[(.slice (some ⟨g,0,none⟩) 6 c),(.slice (some ⟨q1,o1,none⟩) x.snaps.length c2)]:=((Hd.out.b0.set_ 0 (.slice (some ⟨g,0,none⟩) 6 c)).set_ 1 (.slice (some ⟨q1,o1,none⟩) x.snaps.length c2)).alloc (.cells #[.int .i64 0,.int .i64 0,.string ⟨#[]⟩] 69);have Hy:=((Hd.out.b1.far (p:=⟨w.heap.size,0,none⟩) (by simp) (.slice (some ⟨g,0,none⟩) 6 c)).far (p:=⟨w.heap.size,1,none⟩) (by simp) (.slice (some ⟨q1,o1,none⟩) x.snaps.length c2)).alloc (.cells #[.int .i64 0,.int .i64 0,.string ⟨#[]⟩] 69);have Hk:=((Hd.out.b2.far (p:=⟨w.heap.size,0,none⟩) (by simp;omega) (.slice (some ⟨g,0,none⟩) 6 c)).far (p:=⟨w.heap.size,1,none⟩) (by simp;omega) (.slice (some ⟨q1,o1,none⟩) x.snaps.length c2)).alloc (.cells #[.int .i64 0,.int .i64 0,.string ⟨#[]⟩] 69);have Hl:=((Hd.out.b3.far (p:=⟨w.heap.size,0,none⟩) (by simp;omega) (.slice (some ⟨g,0,none⟩) 6 c)).far (p:=⟨w.heap.size,1,none⟩) (by simp;omega) (.slice (some ⟨q1,o1,none⟩) x.snaps.length c2)).alloc (.cells #[.int .i64 0,.int .i64 0,.string ⟨#[]⟩] 69);have hR:Blk (((w3.setCell ⟨w.heap.size,0,none⟩ (.slice (some ⟨g,0,none⟩) 6 c)).setCell ⟨w.heap.size,1,none⟩ (.slice (some ⟨q1,o1,none⟩) x.snaps.length c2)).alloc (.cells #[.int .i64 0,.int .i64 0,.string ⟨#[]⟩] 69)) w3.heap.size 69 #[.int .i64 0,.int .i64 0,.string ⟨#[]⟩]:=Blk.new' (by simp [World.setCell]);have Hz:=((Hd.out.low.setCell (p:=⟨w.heap.size,0,none⟩) (mC _) (.slice (some ⟨g,0,none⟩) 6 c)).setCell (p:=⟨w.heap.size,1,none⟩) (mC _) (.slice (some ⟨q1,o1,none⟩) x.snaps.length c2)).alloc (by have:=Hd.out.low.size;simpa [World.setCell] using this) (.cells #[.int .i64 0,.int .i64 0,.string ⟨#[]⟩] 69);obtain ⟨Wd,Hp⟩:=mJ (((w3.setCell ⟨w.heap.size,0,none⟩ (.slice (some ⟨g,0,none⟩) 6 c)).setCell ⟨w.heap.size,1,none⟩ (.slice (some ⟨q1,o1,none⟩) x.snaps.length c2)).alloc (.cells #[.int .i64 0,.int .i64 0,.string ⟨#[]⟩] 69));have Vl:Wd.heap.size=w3.heap.size+1:=by rw [Hp];simp [World.setCell]
 rw [<- Hp] at hO Ho Hy Hk Hl hR Hz Ku Kv;have HO:=mA hO;have Vm:=mA Ho;have Hm:=mA (mB hR (mB Hk (mB Hl Hz)));have HW:=mA Hp;obtain ⟨d0,d1⟩:=cz2 Ho;obtain ⟨t0,t1,t2⟩:=cz3 Hy;obtain ⟨g0,g1,g2⟩:=cz3 hR;obtain ⟨p0,p1⟩:=cz2 Hk;obtain ⟨s0,s1,s2⟩:=cz3 Hl;have gz:=hR.frozen;have pz:=Hk.frozen;have sz:=Hl.frozen;have Ka:w3.heap.size≠w.heap.size+1+1:=by omega
 have Kb:w3.heap.size≠w.heap.size+1+1+1:=by omega
 have Kc:w3.heap.size≠w.heap.size:=by omega
 have Vn:w3.heap.size≠w.heap.size+1:=by omega
 have Gc:q1 < Wd.heap.size:=by omega
 have Gd:q2 < Wd.heap.size:=by omega
 have Ge:w3.heap.size < Wd.heap.size:=by omega
 have Gf:w.heap.size < Wd.heap.size:=by omega
 clear hO Ho Hy Hk Hl hR Hz Hp;go_wp2_with fail
 rw [<- HW.out];go_region
 go_wp2_with fail
 have Hq:=(Vm.out.far (p:=⟨w3.heap.size,2,none⟩) (fun e=>Kc e.symm) (.string x.snaps[sn][an])).drew;have Hn:Blk _ w3.heap.size 69 #[.int .i64 0,.int .i64 0,.string x.snaps[sn][an]]:=(Hm.out.1.set_ 2 (.string x.snaps[sn][an])).drew;have He:=(Hm.out.2.1.far (p:=⟨w3.heap.size,2,none⟩) (fun e=>Ka e.symm) (.string x.snaps[sn][an])).drew;have Hf:=(Hm.out.2.2.1.far (p:=⟨w3.heap.size,2,none⟩) (fun e=>Kb e.symm) (.string x.snaps[sn][an])).drew;have Kd:=(HO.out.set_ (i:=2) Hm.out.1 (by decide) (by decide) (.string x.snaps[sn][an])).below (mG _ _).drew;have Ke:=(Hm.out.2.2.2.setCell (p:=⟨w3.heap.size,2,none⟩) (by show w.heap.size<=w3.heap.size;omega) (.string x.snaps[sn][an])).drew;obtain ⟨We,Kf⟩:=mJ ((Wd.setCell ⟨w3.heap.size,2,none⟩ (.string x.snaps[sn][an])).drew);rw [<- Kf] at Hq Hn He Hf Kd Ke ⊢;have Vo:Wd.heap.size<=We.heap.size:=by rw [Kf];simp [World.setCell]
 clear d0 d1 t0 t1 t2 g0 g1 g2 p0 p1 s0 s1 s2 gz pz sz Ku Kv Kf HW;obtain ⟨d0,d1⟩:=cz2 Hq;obtain ⟨g0,g1,g2⟩:=cz3 Hn;obtain ⟨p0,p1⟩:=cz2 He;obtain ⟨s0,s1,s2⟩:=cz3 Hf;have gz:=Hn.frozen;have pz:=He.frozen;have sz:=Hf.frozen;have m0:=Hq.lt;have m1:=Hn.lt;have m2:=He.lt;have m3:=Hf.lt;have HX:=mA (mB He (mB Hf (mB Kd Ke)));clear Hq Hn He Hf Kd Ke;go_region
 rename_i hK
 refine hK _ _ (Go.wp_ret ?_);obtain ⟨Vp,Vq,Vr⟩:=zEc HX.out.1 HX.out.2.1 (by omega) (.slice (some ⟨g,0,none⟩) 6 c) (.slice (some ⟨q1,o1,none⟩) x.snaps.length c2) (.int .i64 0) (.int .i64 0) (.string x.snaps[sn][an]);have Vs:=Vp.drew;have Vt:=Vq.drew;obtain ⟨r0,r1⟩:=cz2 Vs;obtain ⟨r2,r3,r4⟩:=cz3 Vt;refine bodyPost_ret (v:=.tuple #[.agg #[(.slice (some ⟨g,0,none⟩) 6 c),(.slice (some ⟨q1,o1,none⟩) x.snaps.length c2)],.agg #[.int .i64 0,.int .i64 0,.string x.snaps[sn][an]],.int .i64 0]) (by simp [results,Tryz.results114,go_sem,r0,r1,r2,r3,r4]) rfl ?_;exact ⟨⟨_,_,rfl,((HX.out.2.2.1.base_ Hu).same Vr).below (mG _ _).drew⟩,(zBr HX.out.2.2.2 (by omega) (by omega) _ _ _ _ _).drew⟩
theorem zUz (A0:Option Addr) (n0 c0:Nat) (A1:Option Addr) (n1 c1:Nat) (x:Scu.Volume) (d:Scu.Str) (w:World) (B:Nat) (hv:IsVolume w B (.slice A0 n0 c0) (.slice A1 n1 c1) x)
 (hf:¬ Scu.volFault x≠0) (ho:¬ Scu.opFault ⟨4,0,0,d⟩≠0) (h3:x.snaps.length=3) :
 Calls Tryz.prog 114 #[.agg #[.slice A0 n0 c0,.slice A1 n1 c1],.agg #[.int .i64 4,.int .i64 0,.int .i64 0,.string d]] w fun e w'=>DidRet w' w.heap.size (x,(⟨7,0,Scu.str0⟩:Scu.Reply),0) e/\Below w.heap.size w w':=by
 have HV:=mA hv;have Kl:(Scu.volFault x != 0)=false:=by simpa using hf
 have Hh:=Decidable.not_not.1 ho;have Ht:=mA (fun W=>zDt _ W Hh);obtain ⟨Hu,Km,Hv,Hi⟩:=zAu hf;have Kn:=mA Hi;clear hv hf ho Hh Hv Hi;have Ko:((x.snaps.length:Int) == 3)=true:=by simp [h3]
 have Kp:(x.snaps.length:Int)=3:=by omega
 have Hw:0 < 6:=by omega
 obtain ⟨an,Hx⟩:=mJ (0);have Hw:an < 6:=by omega
 clear h3;go_enter Tryz.func114,Tryz.ntmps114
 go_wp2_with fail
 refine (zCd _ _ x _ B ((((HV.out.alloc _).alloc _).alloc _).alloc _)).mono ?_;rintro e w1 ⟨rfl,h1⟩;have Hb:=(Four.start w A0 n0 c0 A1 n1 c1 _ _ _ d).below h1;have Hy:w.heap.size+1+1+1 < w1.heap.size:=Hb.b3.lt;have Hj:w.heap.size < w1.heap.size:=by omega
 have Hk:w.heap.size+1 < w1.heap.size:=by omega
 have Hl:w.heap.size+1+1 < w1.heap.size:=by omega
 obtain ⟨z0,z1⟩:=cz2 Hb.b0;obtain ⟨z2,z3,z4,z5⟩:=cz4 Hb.b1;obtain ⟨z6,z7⟩:=cz2 Hb.b2;obtain ⟨z8,z9,zx⟩:=cz3 Hb.b3;have zu:=Hb.b0.frozen;have zv:=Hb.b2.frozen;have zw:=Hb.b3.frozen;go_wp2_with fail
 refine (Ht.out _).mono ?_;rintro e w2 ⟨rfl,h2⟩;have Ha:=Hb.below h2;have Hz:w.heap.size+1+1+1 < w2.heap.size:=Ha.b3.lt;have Hm:w.heap.size < w2.heap.size:=by omega
 have Hn:w.heap.size+1 < w2.heap.size:=by omega
 have Ho:w.heap.size+1+1 < w2.heap.size:=by omega
 obtain ⟨y0,y1⟩:=cz2 Ha.b0;obtain ⟨y2,y3,y4,y5⟩:=cz4 Ha.b1;obtain ⟨y6,y7⟩:=cz2 Ha.b2;obtain ⟨y8,y9,yx⟩:=cz3 Ha.b3;have yu:=Ha.b0.frozen;have yv:=Ha.b2.frozen;have yw:=Ha.b3.frozen;go_wp2_with fail
 refine (zCu _ _ x _ B (HV.out.below Ha.low)).mono ?_;rintro e w3 ⟨⟨nu,su,rfl,hu⟩,h3⟩;obtain ⟨⟨A2,c2,_,rfl,_,_,_,_⟩,_⟩:=hu.is.snaps;have He:=hu.now;rw [Hu] at He;obtain ⟨g,c,cur,rfl,hg,Hf,Hp⟩:=zCj He (by omega);have Hc:=Ha.below h3;have Ka:w.heap.size+1+1+1 < w3.heap.size:=Hc.b3.lt;have Hq:w.heap.size < w3.heap.size:=by omega
 have Hr:w.heap.size+1 < w3.heap.size:=by omega
 have Hs:w.heap.size+1+1 < w3.heap.size:=by omega
 obtain ⟨x0,x1⟩:=cz2 Hc.b0;obtain ⟨x2,x3,x4,x5⟩:=cz4 Hc.b1;obtain ⟨x6,x7⟩:=cz2 Hc.b2;obtain ⟨x8,x9,xx⟩:=cz3 Hc.b3;have xu:=Hc.b0.frozen;have xv:=Hc.b2.frozen;have xw:=Hc.b3.frozen;have Kq:=Hf.frozen;have Kr:w3.cell? ⟨g,an,none⟩=some (.string (x.now[an]'(by omega))):=by rw [Hp an (by omega),List.getElem?_map,mH (by omega)];rfl
 have Kb:=Hf.lt;have Ks:(an:Int) < 6:=by omega
 have Hg:=Ha.low.size;have Kt:w.heap.size+1+1+1 < g:=by omega
 have Kc:g≠w.heap.size:=by omega
 have Kd:=h3.size;have HU:=mA hu;have Hd:=mA Hc;clear h1 h2 h3 Hb Ha Hc He Hp hu Hf hg;go_wp2_with fail
 go_region
 rename_i hK
 refine hK _ _ (Go.wp_ret ?_);have hO:=HU.out.same (Same.sets2 (B:=0) Hd.out.b0 (mE _) (by decide) (.slice (some ⟨g,0,none⟩) 6 c) (.slice A2 x.snaps.length c2));have Ke:=(Hd.out.b2.far (p:=⟨w.heap.size,0,none⟩) (by simp;omega) (.slice (some ⟨g,0,none⟩) 6 c)).far (p:=⟨w.heap.size,1,none⟩) (by simp;omega) (.slice A2 x.snaps.length c2);have Kf:=(Hd.out.b3.far (p:=⟨w.heap.size,0,none⟩) (by simp;omega) (.slice (some ⟨g,0,none⟩) 6 c)).far (p:=⟨w.heap.size,1,none⟩) (by simp;omega) (.slice A2 x.snaps.length c2);obtain ⟨Kg,Kh,Ki⟩:=zEc Ke Kf (by omega) (.slice (some ⟨g,0,none⟩) 6 c) (.slice A2 x.snaps.length c2) (.int .i64 7) (.int .i64 0) (.string ⟨#[]⟩);have Kj:=(Kg.alloc (.cells #[.int .i64 7,.int .i64 0,.string ⟨#[]⟩] 69)).drew;have Kk:=(Kh.alloc (.cells #[.int .i64 7,.int .i64 0,.string ⟨#[]⟩] 69)).drew;obtain ⟨r0,r1⟩:=cz2 Kj;obtain ⟨r2,r3,r4⟩:=cz3 Kk;refine bodyPost_ret (v:=.tuple #[.agg #[(.slice (some ⟨g,0,none⟩) 6 c),(.slice A2 x.snaps.length c2)],.agg #[.int .i64 7,.int .i64 0,.string ⟨#[]⟩],.int .i64 0]) (by simp [results,Tryz.results114,go_sem,r0,r1,r2,r3,r4]) rfl ?_;refine ⟨⟨_,_,rfl,(((hO.base_ Hg).same Ki).alloc _).below (mG _ _).drew⟩,?_⟩;exact zM5
theorem zVa (A0:Option Addr) (n0 c0:Nat) (A1:Option Addr) (n1 c1:Nat) (x:Scu.Volume) (d:Scu.Str) (w:World) (B:Nat) (hv:IsVolume w B (.slice A0 n0 c0) (.slice A1 n1 c1) x)
 (hf:¬ Scu.volFault x≠0) (ho:¬ Scu.opFault ⟨4,0,0,d⟩≠0) (h3:x.snaps.length < 3) :
 Calls Tryz.prog 114 #[.agg #[.slice A0 n0 c0,.slice A1 n1 c1],.agg #[.int .i64 4,.int .i64 0,.int .i64 0,.string d]] w fun e w'=>DidRet w' w.heap.size ((⟨x.now,x.snaps ++ [x.now]⟩:Scu.Volume),(⟨0,(x.snaps.length:Int)+1,Scu.str0⟩:Scu.Reply),0) e/\Below w.heap.size w w':=by
 have HV:=mA hv;have Ga:(Scu.volFault x != 0)=false:=by simpa using hf
 have Kj:=Decidable.not_not.1 ho;have Vb:=mA (fun W=>zDt _ W Kj);obtain ⟨Hw,Gb,Vc,Kk⟩:=zAu hf;have Gc:=mA Kk;clear hv hf ho Kj Vc Kk;have Hj:(x.snaps.length:Int)≠3:=by omega
 have Gd:((x.snaps.length:Int) == 3)=false:=by simpa using Hj
 obtain ⟨an,Vd⟩:=mJ (0);have Ge:an < 6:=by omega
 clear Hj;go_enter Tryz.func114,Tryz.ntmps114
 go_wp2_with fail
 refine (zCd _ _ x _ B ((((HV.out.alloc _).alloc _).alloc _).alloc _)).mono ?_;rintro e w1 ⟨rfl,h1⟩;have Hc:=(Four.start w A0 n0 c0 A1 n1 c1 _ _ _ d).below h1;have Ve:w.heap.size+1+1+1 < w1.heap.size:=Hc.b3.lt;have Kl:w.heap.size < w1.heap.size:=by omega
 have Km:w.heap.size+1 < w1.heap.size:=by omega
 have Kn:w.heap.size+1+1 < w1.heap.size:=by omega
 obtain ⟨z0,z1⟩:=cz2 Hc.b0;obtain ⟨z2,z3,z4,z5⟩:=cz4 Hc.b1;obtain ⟨z6,z7⟩:=cz2 Hc.b2;obtain ⟨z8,z9,zx⟩:=cz3 Hc.b3;have zu:=Hc.b0.frozen;have zv:=Hc.b2.frozen;have zw:=Hc.b3.frozen;go_wp2_with fail
 refine (Vb.out _).mono ?_;rintro e w2 ⟨rfl,h2⟩;have Hb:=Hc.below h2;have Vf:w.heap.size+1+1+1 < w2.heap.size:=Hb.b3.lt;have Ko:w.heap.size < w2.heap.size:=by omega
 have Kp:w.heap.size+1 < w2.heap.size:=by omega
 have Kq:w.heap.size+1+1 < w2.heap.size:=by omega
 obtain ⟨y0,y1⟩:=cz2 Hb.b0;obtain ⟨y2,y3,y4,y5⟩:=cz4 Hb.b1;obtain ⟨y6,y7⟩:=cz2 Hb.b2;obtain ⟨y8,y9,yx⟩:=cz3 Hb.b3;have yu:=Hb.b0.frozen;have yv:=Hb.b2.frozen;have yw:=Hb.b3.frozen;go_wp2_with fail
 refine (zCu _ _ x _ B (HV.out.below Hb.low)).mono ?_;rintro e w3 ⟨⟨nu,su,rfl,hu⟩,h3⟩;obtain ⟨⟨A2,c2,_,rfl,_,_,_,_⟩,_⟩:=hu.is.snaps;have Hx:=hu.now;rw [Hw] at Hx;obtain ⟨g,c,cur,rfl,hg,Hy,Kr⟩:=zCj Hx (by omega);have Hd:=Hb.below h3;have Vg:w.heap.size+1+1+1 < w3.heap.size:=Hd.b3.lt;have Ks:w.heap.size < w3.heap.size:=by omega
 have Kt:w.heap.size+1 < w3.heap.size:=by omega
 have Ku:w.heap.size+1+1 < w3.heap.size:=by omega
 obtain ⟨x0,x1⟩:=cz2 Hd.b0;obtain ⟨x2,x3,x4,x5⟩:=cz4 Hd.b1;obtain ⟨x6,x7⟩:=cz2 Hd.b2;obtain ⟨x8,x9,xx⟩:=cz3 Hd.b3;have xu:=Hd.b0.frozen;have xv:=Hd.b2.frozen;have xw:=Hd.b3.frozen;have Gf:=Hy.frozen;have Gg:w3.cell? ⟨g,an,none⟩=some (.string (x.now[an]'(by omega))):=by rw [Kr an (by omega),List.getElem?_map,mH (by omega)];rfl
 have Hz:=Hy.lt;have Gh:(an:Int) < 6:=by omega
 have Hk:=Hb.low.size;have Gi:w.heap.size+1+1+1 < g:=by omega
 have Vh:g≠w.heap.size:=by omega
 have Vi:=h3.size;have HU:=mA hu;have Hh:=mA Hd;clear h1 h2 h3 Hc Hb Hd Hx Kr hu Hy hg;have hO:=(HU.out.same (Same.sets2 (B:=0) Hh.out.b0 (mE _) (by decide) (.slice (some ⟨g,0,none⟩) 6 c) (.slice A2 x.snaps.length c2))).alloc (.cells #[.int .i64 0,.int .i64 0,.string ⟨#[]⟩] 69);have Ka:Blk _ w.heap.size 88 #[(.slice (some ⟨g,0,none⟩) 6 c),(.slice A2 x.snaps.length c2)]:=((Hh.out.b0.set_ 0 (.slice (some ⟨g,0,none⟩) 6 c)).set_ 1 (.slice A2 x.snaps.length c2)).alloc (.cells #[.int .i64 0,.int .i64 0,.string ⟨#[]⟩] 69);obtain ⟨Wd,Hs⟩:=mJ (((w3.setCell ⟨w.heap.size,0,none⟩ (.slice (some ⟨g,0,none⟩) 6 c)).setCell ⟨w.heap.size,1,none⟩ (.slice A2 x.snaps.length c2)).alloc (.cells #[.int .i64 0,.int .i64 0,.string ⟨#[]⟩] 69));have Vj:Wd.heap.size=w3.heap.size+1:=by rw [Hs];simp [World.setCell]
 have Kb:Blk (((w3.setCell ⟨w.heap.size,0,none⟩ (.slice (some ⟨g,0,none⟩) 6 c)).setCell ⟨w.heap.size,1,none⟩ (.slice A2 x.snaps.length c2)).alloc (.cells #[.int .i64 0,.int .i64 0,.string ⟨#[]⟩] 69)) w3.heap.size 69 #[.int .i64 0,.int .i64 0,.string ⟨#[]⟩]:=Blk.new' (by simp [World.setCell]);have Hl:=((Hh.out.b2.far (p:=⟨w.heap.size,0,none⟩) (by simp;omega) (.slice (some ⟨g,0,none⟩) 6 c)).far (p:=⟨w.heap.size,1,none⟩) (by simp;omega) (.slice A2 x.snaps.length c2)).alloc (.cells #[.int .i64 0,.int .i64 0,.string ⟨#[]⟩] 69);have Hm:=((Hh.out.b3.far (p:=⟨w.heap.size,0,none⟩) (by simp;omega) (.slice (some ⟨g,0,none⟩) 6 c)).far (p:=⟨w.heap.size,1,none⟩) (by simp;omega) (.slice A2 x.snaps.length c2)).alloc (.cells #[.int .i64 0,.int .i64 0,.string ⟨#[]⟩] 69);have Kc:=((Hh.out.low.setCell (p:=⟨w.heap.size,0,none⟩) (mC _) (.slice (some ⟨g,0,none⟩) 6 c)).setCell (p:=⟨w.heap.size,1,none⟩) (mC _) (.slice A2 x.snaps.length c2)).alloc (by have:=Hh.out.low.size;simpa [World.setCell] using this) (.cells #[.int .i64 0,.int .i64 0,.string ⟨#[]⟩] 69);rw [<- Hs] at hO Ka Kb Hl Hm Kc;have Hf:=mA (mB hO.now (mB hO.nowLen (mB hO.nowEach Kc)));clear Kc;have HQ:=mA (mB Hl Hm);clear Hl Hm;have hR:Blk Wd w3.heap.size 69 #[.int .i64 0,.int .i64 0,.string ⟨#[]⟩]:=Kb;clear Kb;have HR:=mA hR;have Kd:=mA hO.is.now;obtain ⟨vs,bb,Hn,Hg,Kv,Kw⟩:=hO.snaps;have Ha:=mA Hn;have Ht:=mA Ka;have HW:=mA Hs;have HE:=mA Hg;have Kx:=mA (mB Kv Kw);clear hO Ka Hn Hg Hs hR Kv Kw;go_wp2_with fail
 rw [<- HW.out];obtain ⟨d0,d1⟩:=cz2 Ht.out;have dz:=Ht.out.frozen;have He:=Ht.out.lt;go_region_law (first
  | (go_simp;go_at_call 11;refine (zAp _ x.now _ 0 (Kd.out.drewN 1)).mono ?_;rintro e w4 ⟨⟨u3,rfl,Ho⟩,h4⟩;have h4:Below Wd.heap.size Wd w4:=(below_drewN (mG _ _) 1).trans h4;obtain ⟨A3,c3,rfl,_,_,_,Hp⟩:=zAi Ho;have Ho:w4.ownsRow Wd.heap.size 9 1 _ _ _:=Ho;have Vk:=mA Ho;have Ke:=mA Hp;clear Ho Hp;have f0:=(((bcell h4).1 w.heap.size 0 He).trans d0);have f1:=(((bcell h4).1 w.heap.size 1 He).trans d1);have fz:=(((bcell h4).2 w.heap.size 1 He).trans (dz 1));have Vl:=h4.size;have f1a:∀ o,(w4.alloc o).cell? ⟨w.heap.size,1,none⟩=some (.slice A2 x.snaps.length c2):=fun o=>(((zAa w4 o).cell (p:=⟨w.heap.size,1,none⟩) (mF He h4.size)).trans f1))
  | (refine zBq _ rfl (.tmp 69) (.tmp 73) 24 rfl zHp w2.heap.size (.slice A2 x.snaps.length c2) x.snaps.length vs rfl ((zAg Ha.out h4).alloc _) (.slice (some ⟨w4.heap.size,0,none⟩) 1 1) 1 [.slice A3 6 c3] rfl ⟨rfl,.inr ⟨_,_,rfl,?_⟩⟩ ?_ ?_ ?_ ?_ ?_
     ·intro j v hj;have Vm:j=0:=by (rcases j with _ | j <;> simp at hj ⊢)
      subst Vm;simp at hj
      subst hj;exact (Blk.new w4 _ _).cell 0
     ·(intro v hv;rw [List.mem_singleton] at hv;subst hv;rfl)
     ·(unfold maxLen;omega)
     ·omega
     ·(simp;have:=Vl;omega)
     intro v5 w5 h5 Hi _;have Hq:=zJe (w:=w2) Ht.out Ha.out h4 Hi;obtain ⟨e0,e1⟩:=cz2 Hq;have ez:=Hq.frozen;have Hr:=zFa ((HR.out.same h4).alloc (.cells #[.slice A3 6 c3] 39)) ((zAg Ha.out h4).alloc _) (by decide) Hi;obtain ⟨g0,g1,g2⟩:=cz3 Hr;have Hu:=zFa ((HQ.out.1.same h4).alloc (.cells #[.slice A3 6 c3] 39)) ((zAg Ha.out h4).alloc _) (by decide) Hi;have Hv:=zFa ((HQ.out.2.same h4).alloc (.cells #[.slice A3 6 c3] 39)) ((zAg Ha.out h4).alloc _) (by decide) Hi;obtain ⟨p0,p1⟩:=cz2 Hu;obtain ⟨s0,s1,s2⟩:=cz3 Hv;have pz:=Hu.frozen;have sz:=Hv.frozen;have Ky:=mA (mB Hu Hv);have Kf:w3.heap.size≠w.heap.size:=by omega
     have Kg:w3.heap.size≠w.heap.size+1+1:=by omega
     have Kh:w3.heap.size≠w.heap.size+1+1+1:=by omega
     have gz:=Hr.frozen;have Vn:=mA Hr;have Gj:w.heap.size < w5.heap.size:=Hq.lt;have Gk:w3.heap.size < w5.heap.size:=Hr.lt;obtain ⟨A5,c5,rfl,_,_,_,_⟩:=zAi h5;have Ki:=mA (mB h5 Hi);have Vo:=mA Hq;clear h5 Hi Hq Hr Hu Hv))
 all_goals
  go_wp2_with fail
  go_region
  rename_i hK
  refine hK _ _ (Go.wp_ret ?_);have Vp:=zAg (zAg Hf.out.1 h4) (zAa w4 (.cells #[.slice A3 6 c3] 39));have Kz:=zAg (zAg Ha.out h4) (zAa w4 (.cells #[.slice A3 6 c3] 39));have Vq:=OwnVol.push (x:=x) (y:=x.now) (u:=.slice A3 6 c3) Vp Hf.out.2.1 Hf.out.2.2.1 Kz (fun j u y a b=>((HE.out j u y a b).below h4).alloc _) Kx.out.1 Kx.out.2 (by
   have h:=(zCn Vk.out Hf.out.2.1 Hf.out.2.2.1).alloc (.cells #[.slice A3 6 c3] 39);rw [Hw] at h;exact h)
   (fun g0 Vr g' Vs=>by
    have h1:Wd.heap.size<=g':=(Ke.out g' (by rw [Hw];exact Vs)).1;have Gl:g=g0:=by simpa [Value.ownBlock] using Vr
    have Gm:=Hz;omega) (by unfold R47;omega) Ki.out.2 Ki.out.1
  have Vt:=(Vq.set_ (i:=1) Vo.out (by decide) (by decide) (.slice A5 (x.snaps.length+1) c5)).set_ (i:=1) (Vn.out.far (p:=⟨w.heap.size,1,none⟩) Kf (.slice A5 (x.snaps.length+1) c5)) (by decide) (by decide) (.int .i64 ((x.snaps.length:Int)+1));have Hl:=(Ky.out.1.far (p:=⟨w.heap.size,1,none⟩) (by simp;omega) (.slice A5 (x.snaps.length+1) c5)).far (p:=⟨w3.heap.size,1,none⟩) (fun e=>Kg e.symm) (.int .i64 ((x.snaps.length:Int)+1));have Hm:=(Ky.out.2.far (p:=⟨w.heap.size,1,none⟩) (by simp;omega) (.slice A5 (x.snaps.length+1) c5)).far (p:=⟨w3.heap.size,1,none⟩) (fun e=>Kh e.symm) (.int .i64 ((x.snaps.length:Int)+1));obtain ⟨Vu,Vv,Vw⟩:=zEc Hl Hm (by omega) (.slice (some ⟨g,0,none⟩) 6 c) (.slice A5 (x.snaps.length+1) c5) (.int .i64 0) (.int .i64 ((x.snaps.length:Int)+1)) (.string ⟨#[]⟩);have Vx:=Vu.drew;have Vy:=Vv.drew;obtain ⟨r0,r1⟩:=cz2 Vx;obtain ⟨r2,r3,r4⟩:=cz3 Vy;refine bodyPost_ret (v:=.tuple #[.agg #[(.slice (some ⟨g,0,none⟩) 6 c),.slice A5 (x.snaps.length+1) c5],.agg #[.int .i64 0,.int .i64 ((x.snaps.length:Int)+1),.string ⟨#[]⟩],.int .i64 0]) (by simp [results,Tryz.results114,go_sem,r0,r1,r2,r3,r4]) rfl ?_;refine ⟨⟨_,_,rfl,((Vt.base_ Hk).same Vw).below (mG _ _).drew⟩,?_⟩;have Va:=(Hf.out.2.2.2.trans (h4.mono Hf.out.2.2.2.size)).alloc (by have:=Hf.out.2.2.2.size;have:=h4.size;omega) (.cells #[.slice A3 6 c3] 39);have Vz:=Va.grown Ki.out.2 Va.size (fun q hq=>mD Hk (Kz.lt q hq).1);exact (zBr ((Vz.setCell (p:=⟨w.heap.size,1,none⟩) (mC _) _).setCell (p:=⟨w3.heap.size,1,none⟩) (by show w.heap.size<=w3.heap.size;omega) _) (by omega) (by omega) _ _ _ _ _).drew
theorem zXz (nv sv:Value) (x:Scu.Volume) (ki a m:Int) (d:Scu.Str) (w:World) (B:Nat) (hv:IsVolume w B nv sv x) :
 Calls Tryz.prog 114 #[.agg #[nv,sv],.agg #[.int .i64 ki,.int .i64 a,.int .i64 m,.string d]] w fun e w'=>DidRet w' w.heap.size (Scu.volDo x ⟨ki,a,m,d⟩) e/\Below w.heap.size w w':=by
 obtain ⟨A0,n0,c0,rfl⟩:=hv.now.form;obtain ⟨A1,n1,c1,rfl⟩:=hv.snaps.form;by_cases hf:Scu.volFault x≠0
 ·rw [vd1 hf];exact zUs A0 n0 c0 A1 n1 c1 x ki a m d w B hv hf
 by_cases ho:Scu.opFault ⟨ki,a,m,d⟩≠0
 ·rw [vd2 hf ho];exact zUt A0 n0 c0 A1 n1 c1 x ki a m d w B hv hf ho
 rw [vd3 hf ho];obtain ⟨k0,k1,a0,a1,m0,m1,Hf,Hd,He,Hg⟩:=Scu.opFault_ok (Decidable.not_not.1 ho);have Hh:=(zAu hf).1;have Hi:=(zAu hf).2.1;simp only at k0 k1 a0 a1 m0 m1 Hf Hd He
 obtain ⟨an,rfl⟩:=Int.eq_ofNat_of_zero_le a0;have hd:d.size<=R47:=by unfold R47;omega
 have Hb:an < 6:=by omega
 have Hc:(ki=1\/ki=2)\/ki=3\/ki=4:=by omega
 rcases Hc with hw | rfl | rfl
 ·obtain rfl:m=0:=Hd (by omega);have Ha:Scu.doIt x ⟨ki,an,0,d⟩=(⟨x.now.set an d,x.snaps⟩,Scu.reply0):=by unfold Scu.doIt;rw [if_pos hw];rfl
  rw [Ha];rcases hw with rfl | rfl
  ·exact zUu A0 n0 c0 A1 n1 c1 x an d w B hv hf ho Hb hd
  exact zUv A0 n0 c0 A1 n1 c1 x an d w B hv hf ho Hb hd
 ·by_cases hm:m=0
  ·subst hm;have Ha:Scu.doIt x ⟨3,an,0,d⟩=(x,⟨0,0,x.now.getD an Scu.str0⟩):=by
    unfold Scu.doIt;rw [if_neg (by simp),if_neg (by simp),if_pos rfl];rfl
   rw [Ha];exact zUw A0 n0 c0 A1 n1 c1 x an d w B hv hf ho Hb
  obtain ⟨sn,rfl⟩:∃ sn:Nat,m=(sn:Int)+1:=⟨(m - 1).toNat,by omega⟩;by_cases hgt:x.snaps.length < sn+1
  ·have Ha:Scu.doIt x ⟨3,an,(sn:Int)+1,d⟩=(x,⟨6,0,Scu.str0⟩):=by
    unfold Scu.doIt;rw [if_neg (by simp),if_neg (by simp),if_neg (by simp only [];omega),if_pos (by simp only [];omega)];rfl
   rw [Ha];exact zUx A0 n0 c0 A1 n1 c1 x an sn d w B hv hf ho Hb hgt
  have Ha:Scu.doIt x ⟨3,an,(sn:Int)+1,d⟩=(x,⟨0,0,(x.snaps.getD sn []).getD an Scu.str0⟩):=by
   unfold Scu.doIt;rw [if_neg (by simp),if_neg (by simp),if_neg (by simp only [];omega),if_neg (by simp only [];omega)];have e1:((sn:Int)+1 - 1).toNat=sn:=by omega
   simp only [Int.toNat_natCast,e1]
   rfl
  rw [Ha];exact zUy A0 n0 c0 A1 n1 c1 x an sn d w B hv hf ho Hb (by omega)
 obtain rfl:m=0:=Hd (by omega);obtain rfl:an=0:=by have:=He rfl;omega
 by_cases h3:x.snaps.length=3
 ·have Ha:Scu.doIt x ⟨4,(0:Nat),0,d⟩=(x,⟨7,0,Scu.str0⟩):=by
   unfold Scu.doIt;rw [if_neg (by simp),if_pos rfl,if_pos h3];rfl
  rw [Ha];exact zUz A0 n0 c0 A1 n1 c1 x d w B hv hf ho h3
 have Ha:Scu.doIt x ⟨4,(0:Nat),0,d⟩=(⟨x.now,x.snaps ++ [x.now]⟩,⟨0,(x.snaps.length:Int)+1,Scu.str0⟩):=by
  unfold Scu.doIt;rw [if_neg (by simp),if_pos rfl,if_neg h3];rfl
 rw [Ha];exact zVa A0 n0 c0 A1 n1 c1 x d w B hv hf ho (by omega)
theorem zDu (o:Scu.Op) (w:World) (h:Scu.opFault o=0) :
 Calls Tryz.prog 32 #[.agg #[.int .i64 o.kind,.int .i64 o.at_,.int .i64 o.snap,.string o.data]] w fun e w'=>e=.returned (.int .i64 0)/\Below w.heap.size w w':=by
 have:=zGv o w;rw [h] at this;exact this
theorem zNb {w:World} {B:Nat} {v:Value} {xs:List Scu.Str} {k:Nat} (h:IsStrs w B v xs) (hk:k < xs.length) :
 ∃ q o c,v=.slice (some ⟨q,o,none⟩) xs.length c/\q < w.heap.size/\w.cell? ⟨q,o+k,none⟩=some (.string xs[k]):=by
 obtain ⟨⟨A,c,rfl,_,hr⟩,_,_⟩:=h;obtain ⟨q,o,rfl,h2,h3⟩:=hr.get (show (xs.map Value.string)[k]? = some (.string xs[k]) by simp [hk]);exact ⟨q,o,c,rfl,h2,h3⟩
theorem zSn {w:World} {B:Nat} {v:Value} {xss:List (List Scu.Str)} {k:Nat} (h:IsRows w B v xss) (hk:k < xss.length) :
 ∃ q o c u,v=.slice (some ⟨q,o,none⟩) xss.length c/\q < w.heap.size/\w.cell? ⟨q,o+k,none⟩=some u/\IsStrs w B u xss[k]:=by
 obtain ⟨⟨A,c,vs,rfl,_,hr,Ha,Hb⟩,_⟩:=h;obtain ⟨q,o,u,rfl,h2,h3,h4⟩:=zGw hr Ha Hb hk;exact ⟨q,o,c,u,rfl,h2,h3,h4⟩
end Go.Proofs.YtlngfbngnnepiaaGreat
