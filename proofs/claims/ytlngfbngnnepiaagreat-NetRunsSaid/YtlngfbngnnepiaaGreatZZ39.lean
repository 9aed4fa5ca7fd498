/- Part 39: words and walks under the laws of the whole. -/
import Derived.Test.YtlngfbngnnepiaaGreatZZ38
set_option linter.unusedVariables false
set_option linter.unusedSimpArgs false
set_option maxHeartbeats 4000000
set_option maxRecDepth 100000
namespace Go.Proofs.YtlngfbngnnepiaaGreat
open Go.RowKit
theorem zVb (A0:Option Addr) (n0 c0:Nat) (A1:Option Addr) (n1 c1:Nat) (x:Scu.Volume) (ki a m:Int) (d:Scu.Str) (w:World) (B:Nat) (hv:IsVolume w B (.slice A0 n0 c0) (.slice A1 n1 c1) x) (hf:Scu.volFault x≠0) :
 Calls Tryz.prog 97 #[.agg #[.slice A0 n0 c0,.slice A1 n1 c1],.agg #[.int .i64 ki,.int .i64 a,.int .i64 m,.string d]] w fun e w'=>DidRet w' w.heap.size (Scu.vol0,Scu.reply0,Scu.volFault x) e/\Below w.heap.size w w':=by
 have HV:=mA hv;have Hf:(Scu.volFault x != 0)=true:=by simpa using hf
 have Hg:(Scu.volFault x == 0)=false:=by simpa using hf
 clear hf hv;go_enter Tryz.func97,Tryz.ntmps97
 go_wp2_with fail
 refine (zBg _ _ x _ B ((((HV.out.alloc _).alloc _).alloc _).alloc _)).mono ?_;rintro e w1 ⟨rfl,h1⟩;have Ha:=(Four.start w _ _ _ _ _ _ _ _ _ _).below h1;have He:w.heap.size+1+1+1 < w1.heap.size:=Ha.b3.lt;have Hb:w.heap.size < w1.heap.size:=by omega
 have Hc:w.heap.size+1 < w1.heap.size:=by omega
 have Hd:w.heap.size+1+1 < w1.heap.size:=by omega
 obtain ⟨z0,z1⟩:=cz2 Ha.b0;obtain ⟨z2,z3,z4,z5⟩:=cz4 Ha.b1;obtain ⟨z6,z7⟩:=cz2 Ha.b2;obtain ⟨z8,z9,zx⟩:=cz3 Ha.b3;have zu:=Ha.b0.frozen;have zv:=Ha.b2.frozen;have zw:=Ha.b3.frozen;go_wp2
 refine bodyPost_ret (v:=.tuple #[.agg #[.slice none 0 0,.slice none 0 0],.agg #[.int .i64 0,.int .i64 0,.string ⟨#[]⟩],.int .i64 (Scu.volFault x)]) (by simp [results,Tryz.results97,go_sem,z6,z7,z8,z9,zx]) rfl ?_;exact ⟨zIt _ _ _,zBr Ha.low (by omega) (by omega) _ _ _ _ _⟩
theorem zVc (A0:Option Addr) (n0 c0:Nat) (A1:Option Addr) (n1 c1:Nat) (x:Scu.Volume) (ki a m:Int) (d:Scu.Str) (w:World) (B:Nat) (hv:IsVolume w B (.slice A0 n0 c0) (.slice A1 n1 c1) x) (hf:¬ Scu.volFault x≠0) (ho:Scu.opFault ⟨ki,a,m,d⟩≠0) :
 Calls Tryz.prog 97 #[.agg #[.slice A0 n0 c0,.slice A1 n1 c1],.agg #[.int .i64 ki,.int .i64 a,.int .i64 m,.string d]] w fun e w'=>DidRet w' w.heap.size (Scu.vol0,Scu.reply0,Scu.opFault ⟨ki,a,m,d⟩) e/\Below w.heap.size w w':=by
 have HV:=mA hv;have Hl:(Scu.volFault x != 0)=false:=by simpa using hf
 have Hm:(Scu.volFault x == 0)=true:=by simpa using hf
 have Hn:(Scu.opFault ⟨ki,a,m,d⟩ != 0)=true:=by simpa using ho
 have Ho:(Scu.opFault ⟨ki,a,m,d⟩ == 0)=false:=by simpa using ho
 have Hi:=mA (fun W=>zGv ⟨ki,a,m,d⟩ W);clear hf ho hv;go_enter Tryz.func97,Tryz.ntmps97
 go_wp2_with fail
 refine (zBg _ _ x _ B ((((HV.out.alloc _).alloc _).alloc _).alloc _)).mono ?_;rintro e w1 ⟨rfl,h1⟩;have Ha:=(Four.start w _ _ _ _ _ _ _ _ _ _).below h1;have Hj:w.heap.size+1+1+1 < w1.heap.size:=Ha.b3.lt;have Hc:w.heap.size < w1.heap.size:=by omega
 have Hd:w.heap.size+1 < w1.heap.size:=by omega
 have He:w.heap.size+1+1 < w1.heap.size:=by omega
 obtain ⟨z0,z1⟩:=cz2 Ha.b0;obtain ⟨z2,z3,z4,z5⟩:=cz4 Ha.b1;obtain ⟨z6,z7⟩:=cz2 Ha.b2;obtain ⟨z8,z9,zx⟩:=cz3 Ha.b3;have zu:=Ha.b0.frozen;have zv:=Ha.b2.frozen;have zw:=Ha.b3.frozen;go_wp2_with fail
 refine (Hi.out _).mono ?_;rintro e w2 ⟨rfl,h2⟩;have Hb:=Ha.below h2;have Hk:w.heap.size+1+1+1 < w2.heap.size:=Hb.b3.lt;have Hf:w.heap.size < w2.heap.size:=by omega
 have Hg:w.heap.size+1 < w2.heap.size:=by omega
 have Hh:w.heap.size+1+1 < w2.heap.size:=by omega
 obtain ⟨y0,y1⟩:=cz2 Hb.b0;obtain ⟨y2,y3,y4,y5⟩:=cz4 Hb.b1;obtain ⟨y6,y7⟩:=cz2 Hb.b2;obtain ⟨y8,y9,yx⟩:=cz3 Hb.b3;have yu:=Hb.b0.frozen;have yv:=Hb.b2.frozen;have yw:=Hb.b3.frozen;go_wp2
 refine bodyPost_ret (v:=.tuple #[.agg #[.slice none 0 0,.slice none 0 0],.agg #[.int .i64 0,.int .i64 0,.string ⟨#[]⟩],.int .i64 (Scu.opFault ⟨ki,a,m,d⟩)]) (by simp [results,Tryz.results97,go_sem,y6,y7,y8,y9,yx]) rfl ?_;exact ⟨zIt _ _ _,zBr Hb.low (by omega) (by omega) _ _ _ _ _⟩
theorem zN5 {P:Prop} (h:P:=by
 exact ⟨⟨_,_,rfl,((Kl.base_ Hg).same Kr).below (mG _ _).drew⟩,(zBr Ko (by omega) (by omega) _ _ _ _ _).drew⟩):P:=h
theorem zVd (A0:Option Addr) (n0 c0:Nat) (A1:Option Addr) (n1 c1:Nat) (x:Scu.Volume) (an:Nat) (d:Scu.Str)  (w:World) (B:Nat) (hv:IsVolume w B (.slice A0 n0 c0) (.slice A1 n1 c1) x)
 (hf:¬ Scu.volFault x≠0) (ho:¬ Scu.opFault ⟨1,an,0,d⟩≠0) (Ku:an < 6) (Hl:d.size<=R47) :
 Calls Tryz.prog 97 #[.agg #[.slice A0 n0 c0,.slice A1 n1 c1],.agg #[.int .i64 1,.int .i64 an,.int .i64 0,.string d]] w fun e w'=>DidRet w' w.heap.size ((⟨x.now.set an d,x.snaps⟩:Scu.Volume),Scu.reply0,0) e/\Below w.heap.size w w':=by
 have HV:=mA hv;have Kv:(Scu.volFault x != 0)=false:=by simpa using hf
 have Kw:(Scu.volFault x == 0)=true:=by simpa using hf
 have Hm:=Decidable.not_not.1 ho;have Ka:=mA (fun W=>zDu _ W Hm);obtain ⟨Hn,Kx,Kb,Ho⟩:=zAu hf;have Ky:=mA Ho;clear hv hf ho Hm Kb Ho;have Kc:=mA Hl;clear Hl;go_enter Tryz.func97,Tryz.ntmps97
 go_wp2_with fail
 refine (zBg _ _ x _ B ((((HV.out.alloc _).alloc _).alloc _).alloc _)).mono ?_;rintro e w1 ⟨rfl,h1⟩;have Hb:=(Four.start w _ _ _ _ _ _ _ _ _ _).below h1;have Kd:w.heap.size+1+1+1 < w1.heap.size:=Hb.b3.lt;have Hp:w.heap.size < w1.heap.size:=by omega
 have Hq:w.heap.size+1 < w1.heap.size:=by omega
 have Hr:w.heap.size+1+1 < w1.heap.size:=by omega
 obtain ⟨z0,z1⟩:=cz2 Hb.b0;obtain ⟨z2,z3,z4,z5⟩:=cz4 Hb.b1;obtain ⟨z6,z7⟩:=cz2 Hb.b2;obtain ⟨z8,z9,zx⟩:=cz3 Hb.b3;have zu:=Hb.b0.frozen;have zv:=Hb.b2.frozen;have zw:=Hb.b3.frozen;go_wp2_with fail
 refine (Ka.out _).mono ?_;rintro e w2 ⟨rfl,h2⟩;have Ha:=Hb.below h2;have Ke:w.heap.size+1+1+1 < w2.heap.size:=Ha.b3.lt;have Hs:w.heap.size < w2.heap.size:=by omega
 have Ht:w.heap.size+1 < w2.heap.size:=by omega
 have Hu:w.heap.size+1+1 < w2.heap.size:=by omega
 obtain ⟨y0,y1⟩:=cz2 Ha.b0;obtain ⟨y2,y3,y4,y5⟩:=cz4 Ha.b1;obtain ⟨y6,y7⟩:=cz2 Ha.b2;obtain ⟨y8,y9,yx⟩:=cz3 Ha.b3;have yu:=Ha.b0.frozen;have yv:=Ha.b2.frozen;have yw:=Ha.b3.frozen;go_wp2_with fail
 refine (zCv _ _ x _ B (HV.out.below Ha.low)).mono ?_;rintro e w3 ⟨⟨nu,su,rfl,hu⟩,h3⟩;obtain ⟨⟨A2,c2,_,rfl,_,_,_,_⟩,_⟩:=hu.is.snaps;have Hd:=hu.now;rw [Hn] at Hd;obtain ⟨g,c,cur,rfl,hg,Hf,Hh⟩:=zCj Hd (by omega);have Hc:=Ha.below h3;have Kf:w.heap.size+1+1+1 < w3.heap.size:=Hc.b3.lt;have Hv:w.heap.size < w3.heap.size:=by omega
 have Hw:w.heap.size+1 < w3.heap.size:=by omega
 have Hx:w.heap.size+1+1 < w3.heap.size:=by omega
 have Kg:=Hf.lt;have Kh:=h3.size;have Ki:=Ha.low.size;obtain ⟨x0,x1⟩:=cz2 Hc.b0;obtain ⟨x2,x3,x4,x5⟩:=cz4 Hc.b1;obtain ⟨x6,x7⟩:=cz2 Hc.b2;obtain ⟨x8,x9,xx⟩:=cz3 Hc.b3;have xu:=Hc.b0.frozen;have xv:=Hc.b2.frozen;have xw:=Hc.b3.frozen;have HU:=mA hu;have Hy:=mA Hc;clear h1 h2 h3 Hb Ha Hc Hd Hh hu Hf;go_upto_region 8 with fail
 obtain ⟨Wd,He⟩:=mJ ((w3.alloc (.cells #[(.slice (some ⟨g,0,none⟩) 6 c),(.slice A2 x.snaps.length c2)] 88)).alloc (.cells #[.int .i64 0,.int .i64 0,.string ⟨#[]⟩] 69));rw [<- He];have Kz:Wd.heap.size=w3.heap.size+1+1:=by rw [He];simp
 have Hk:Below w3.heap.size w3 Wd:=by rw [He];exact (zAa w3 _).alloc (by simp) _
 have Hi:Blk Wd w3.heap.size 88 #[(.slice (some ⟨g,0,none⟩) 6 c),(.slice A2 x.snaps.length c2)]:=by rw [He];exact (Blk.new w3 _ _).alloc _
 have Hj:Blk Wd (w3.heap.size+1) 69 #[.int .i64 0,.int .i64 0,.string ⟨#[]⟩]:=by rw [He];exact Blk.new' (by simp)
 have hF:=Hy.out.below Hk;have hO:=HU.out.below Hk;have Hz:=HV.out.below hF.low;clear HU Hy He Hk x0 x1 x2 x3 x4 x5 x6 x7 x8 x9 xx xu xv xw y0 y1 y2 y3 y4 y5 y6 y7 y8 y9 yx yu yv yw z0 z1 z2 z3 z4 z5 z6 z7 z8 z9 zx zu zv zw;obtain ⟨d0,d1⟩:=cz2 hF.b0;obtain ⟨d2,d3,d4,d5⟩:=cz4 hF.b1;obtain ⟨d6,d7⟩:=cz2 hF.b2;obtain ⟨d8,d9,dx⟩:=cz3 hF.b3;have du:=hF.b0.frozen;have dv:=hF.b2.frozen;have dw:=hF.b3.frozen;obtain ⟨v0,v1⟩:=cz2 Hi;obtain ⟨k0,k1,k2⟩:=cz3 Hj;have vz:=Hi.frozen;have kz:=Hj.frozen;have Hd:=hO.now;rw [Hn] at Hd;obtain ⟨g',c',cur,e',_,Hf,Hh⟩:=zCj Hd (by omega);obtain ⟨rfl,rfl⟩:g=g'/\c=c':=by cases e';exact ⟨rfl,rfl⟩
 have Va:=Hf.frozen;have Vb:Wd.cell? ⟨g,an,none⟩=some (.string (x.now[an]'(by omega))):=by rw [Hh an (by omega),List.getElem?_map,mH (by omega)];rfl
 have Vc:(an:Int) < 6:=by omega
 have Vd:g < Wd.heap.size:=by omega
 have Ve:w3.heap.size < Wd.heap.size:=by omega
 have Vf:w3.heap.size+1 < Wd.heap.size:=by omega
 have Vg:g≠w.heap.size:=by omega
 have Vh:g≠w.heap.size+1:=by omega
 have Kj:g≠w.heap.size+1+1:=by omega
 have Kk:g≠w.heap.size+1+1+1:=by omega
 have Vi:g≠w3.heap.size:=by omega
 have Vj:g≠w3.heap.size+1:=by omega
 have Vk:w3.heap.size≠w.heap.size:=by omega
 have Vl:w3.heap.size≠w.heap.size+1:=by omega
 have Vm:w3.heap.size≠w.heap.size+1+1:=by omega
 have Vn:w3.heap.size≠w.heap.size+1+1+1:=by omega
 have Vo:w3.heap.size+1≠w.heap.size:=by omega
 have Vp:w3.heap.size+1≠w.heap.size+1:=by omega
 have Vq:w3.heap.size+1≠w.heap.size+1+1:=by omega
 have Vr:w3.heap.size+1≠w.heap.size+1+1+1:=by omega
 have Vs:w.heap.size < Wd.heap.size:=by omega
 have Vt:w.heap.size+1 < Wd.heap.size:=by omega
 have Vu:w.heap.size+1+1 < Wd.heap.size:=by omega
 have Vv:w.heap.size+1+1+1 < Wd.heap.size:=by omega
 have Hg:w.heap.size<=w2.heap.size:=by omega
 have HO:=mA hO;have HF:=mA hF;have Vw:=mA Hz;have Vx:=mA Hi;have Vy:=mA Hj;clear hO hF Hz Hi Hj Hd Hf Hh e';go_wp2_with fail
 have Kl:=HO.out.put an d Kc.out;have Km:=HF.out.b2.far (p:=⟨g,an,none⟩) (fun e=>Kj e.symm) (.string d);have Kn:=HF.out.b3.far (p:=⟨g,an,none⟩) (fun e=>Kk e.symm) (.string d);have Ko:=HF.out.low.setCell (p:=⟨g,an,none⟩) (by show w.heap.size<=g;omega) (.string d);go_region
 rename_i hK
 refine hK _ _ (Go.wp_ret ?_);obtain ⟨Kp,Kq,Kr⟩:=zEc Km Kn (by omega) (.slice (some ⟨g,0,none⟩) 6 c) (.slice A2 x.snaps.length c2) (.int .i64 0) (.int .i64 0) (.string ⟨#[]⟩);have Ks:=Kp.drew;have Kt:=Kq.drew;obtain ⟨r0,r1⟩:=cz2 Ks;obtain ⟨r2,r3,r4⟩:=cz3 Kt;refine bodyPost_ret (v:=.tuple #[.agg #[(.slice (some ⟨g,0,none⟩) 6 c),(.slice A2 x.snaps.length c2)],.agg #[.int .i64 0,.int .i64 0,.string ⟨#[]⟩],.int .i64 0]) (by simp [results,Tryz.results97,go_sem,r0,r1,r2,r3,r4]) rfl ?_;exact zN5
theorem zVe (A0:Option Addr) (n0 c0:Nat) (A1:Option Addr) (n1 c1:Nat) (x:Scu.Volume) (an:Nat)  (w:World) (B:Nat) (hv:IsVolume w B (.slice A0 n0 c0) (.slice A1 n1 c1) x)
 (hf:¬ Scu.volFault x≠0) (ho:¬ Scu.opFault ⟨2,an,0,⟨#[]⟩⟩≠0) (Kt:an < 6) :
 Calls Tryz.prog 97 #[.agg #[.slice A0 n0 c0,.slice A1 n1 c1],.agg #[.int .i64 2,.int .i64 an,.int .i64 0,.string ⟨#[]⟩]] w fun e w'=>DidRet w' w.heap.size ((⟨x.now.set an ⟨#[]⟩,x.snaps⟩:Scu.Volume),Scu.reply0,0) e/\Below w.heap.size w w':=by
 have HV:=mA hv;have Ku:(Scu.volFault x != 0)=false:=by simpa using hf
 have Kv:(Scu.volFault x == 0)=true:=by simpa using hf
 have Hl:=Decidable.not_not.1 ho;have Hz:=mA (fun W=>zDu _ W Hl);obtain ⟨Hm,Kw,Ka,Hn⟩:=zAu hf;have Kx:=mA Hn;clear hv hf ho Hl Ka Hn;have Kb:=mA (show (⟨#[]⟩:Scu.Str).size<=R47 by unfold R47;decide);go_enter Tryz.func97,Tryz.ntmps97
 go_wp2_with fail
 refine (zBg _ _ x _ B ((((HV.out.alloc _).alloc _).alloc _).alloc _)).mono ?_;rintro e w1 ⟨rfl,h1⟩;have Hb:=(Four.start w _ _ _ _ _ _ _ _ _ _).below h1;have Kc:w.heap.size+1+1+1 < w1.heap.size:=Hb.b3.lt;have Ho:w.heap.size < w1.heap.size:=by omega
 have Hp:w.heap.size+1 < w1.heap.size:=by omega
 have Hq:w.heap.size+1+1 < w1.heap.size:=by omega
 obtain ⟨z0,z1⟩:=cz2 Hb.b0;obtain ⟨z2,z3,z4,z5⟩:=cz4 Hb.b1;obtain ⟨z6,z7⟩:=cz2 Hb.b2;obtain ⟨z8,z9,zx⟩:=cz3 Hb.b3;have zu:=Hb.b0.frozen;have zv:=Hb.b2.frozen;have zw:=Hb.b3.frozen;go_wp2_with fail
 refine (Hz.out _).mono ?_;rintro e w2 ⟨rfl,h2⟩;have Ha:=Hb.below h2;have Kd:w.heap.size+1+1+1 < w2.heap.size:=Ha.b3.lt;have Hr:w.heap.size < w2.heap.size:=by omega
 have Hs:w.heap.size+1 < w2.heap.size:=by omega
 have Ht:w.heap.size+1+1 < w2.heap.size:=by omega
 obtain ⟨y0,y1⟩:=cz2 Ha.b0;obtain ⟨y2,y3,y4,y5⟩:=cz4 Ha.b1;obtain ⟨y6,y7⟩:=cz2 Ha.b2;obtain ⟨y8,y9,yx⟩:=cz3 Ha.b3;have yu:=Ha.b0.frozen;have yv:=Ha.b2.frozen;have yw:=Ha.b3.frozen;go_wp2_with fail
 refine (zCv _ _ x _ B (HV.out.below Ha.low)).mono ?_;rintro e w3 ⟨⟨nu,su,rfl,hu⟩,h3⟩;obtain ⟨⟨A2,c2,_,rfl,_,_,_,_⟩,_⟩:=hu.is.snaps;have Hd:=hu.now;rw [Hm] at Hd;obtain ⟨g,c,cur,rfl,hg,Hf,Hh⟩:=zCj Hd (by omega);have Hc:=Ha.below h3;have Ke:w.heap.size+1+1+1 < w3.heap.size:=Hc.b3.lt;have Hu:w.heap.size < w3.heap.size:=by omega
 have Hv:w.heap.size+1 < w3.heap.size:=by omega
 have Hw:w.heap.size+1+1 < w3.heap.size:=by omega
 have Kf:=Hf.lt;have Kg:=h3.size;have Kh:=Ha.low.size;obtain ⟨x0,x1⟩:=cz2 Hc.b0;obtain ⟨x2,x3,x4,x5⟩:=cz4 Hc.b1;obtain ⟨x6,x7⟩:=cz2 Hc.b2;obtain ⟨x8,x9,xx⟩:=cz3 Hc.b3;have xu:=Hc.b0.frozen;have xv:=Hc.b2.frozen;have xw:=Hc.b3.frozen;have HU:=mA hu;have Hx:=mA Hc;clear h1 h2 h3 Hb Ha Hc Hd Hh hu Hf;go_upto_region 8 with fail
 obtain ⟨Wd,He⟩:=mJ ((w3.alloc (.cells #[(.slice (some ⟨g,0,none⟩) 6 c),(.slice A2 x.snaps.length c2)] 88)).alloc (.cells #[.int .i64 0,.int .i64 0,.string ⟨#[]⟩] 69));rw [<- He];have Ky:Wd.heap.size=w3.heap.size+1+1:=by rw [He];simp
 have Hk:Below w3.heap.size w3 Wd:=by rw [He];exact (zAa w3 _).alloc (by simp) _
 have Hi:Blk Wd w3.heap.size 88 #[(.slice (some ⟨g,0,none⟩) 6 c),(.slice A2 x.snaps.length c2)]:=by rw [He];exact (Blk.new w3 _ _).alloc _
 have Hj:Blk Wd (w3.heap.size+1) 69 #[.int .i64 0,.int .i64 0,.string ⟨#[]⟩]:=by rw [He];exact Blk.new' (by simp)
 have hF:=Hx.out.below Hk;have hO:=HU.out.below Hk;have Hy:=HV.out.below hF.low;clear HU Hx He Hk x0 x1 x2 x3 x4 x5 x6 x7 x8 x9 xx xu xv xw y0 y1 y2 y3 y4 y5 y6 y7 y8 y9 yx yu yv yw z0 z1 z2 z3 z4 z5 z6 z7 z8 z9 zx zu zv zw;obtain ⟨d0,d1⟩:=cz2 hF.b0;obtain ⟨d2,d3,d4,d5⟩:=cz4 hF.b1;obtain ⟨d6,d7⟩:=cz2 hF.b2;obtain ⟨d8,d9,dx⟩:=cz3 hF.b3;have du:=hF.b0.frozen;have dv:=hF.b2.frozen;have dw:=hF.b3.frozen;obtain ⟨v0,v1⟩:=cz2 Hi;obtain ⟨k0,k1,k2⟩:=cz3 Hj;have vz:=Hi.frozen;have kz:=Hj.frozen;have Hd:=hO.now;rw [Hm] at Hd;obtain ⟨g',c',cur,e',_,Hf,Hh⟩:=zCj Hd (by omega);obtain ⟨rfl,rfl⟩:g=g'/\c=c':=by cases e';exact ⟨rfl,rfl⟩
 have Kz:=Hf.frozen;have Va:Wd.cell? ⟨g,an,none⟩=some (.string (x.now[an]'(by omega))):=by rw [Hh an (by omega),List.getElem?_map,mH (by omega)];rfl
 have Vb:(an:Int) < 6:=by omega
 have Vc:g < Wd.heap.size:=by omega
 have Vd:w3.heap.size < Wd.heap.size:=by omega
 have Ve:w3.heap.size+1 < Wd.heap.size:=by omega
 have Vf:g≠w.heap.size:=by omega
 have Vg:g≠w.heap.size+1:=by omega
 have Ki:g≠w.heap.size+1+1:=by omega
 have Kj:g≠w.heap.size+1+1+1:=by omega
 have Vh:g≠w3.heap.size:=by omega
 have Vi:g≠w3.heap.size+1:=by omega
 have Vj:w3.heap.size≠w.heap.size:=by omega
 have Vk:w3.heap.size≠w.heap.size+1:=by omega
 have Vl:w3.heap.size≠w.heap.size+1+1:=by omega
 have Vm:w3.heap.size≠w.heap.size+1+1+1:=by omega
 have Vn:w3.heap.size+1≠w.heap.size:=by omega
 have Vo:w3.heap.size+1≠w.heap.size+1:=by omega
 have Vp:w3.heap.size+1≠w.heap.size+1+1:=by omega
 have Vq:w3.heap.size+1≠w.heap.size+1+1+1:=by omega
 have Vr:w.heap.size < Wd.heap.size:=by omega
 have Vs:w.heap.size+1 < Wd.heap.size:=by omega
 have Vt:w.heap.size+1+1 < Wd.heap.size:=by omega
 have Vu:w.heap.size+1+1+1 < Wd.heap.size:=by omega
 have Hg:w.heap.size<=w2.heap.size:=by omega
 have HO:=mA hO;have HF:=mA hF;have Vv:=mA Hy;have Vw:=mA Hi;have Vx:=mA Hj;clear hO hF Hy Hi Hj Hd Hf Hh e';go_wp2_with fail
 have Kk:=HO.out.put an ⟨#[]⟩ Kb.out;have Kl:=HF.out.b2.far (p:=⟨g,an,none⟩) (fun e=>Ki e.symm) (.string ⟨#[]⟩);have Km:=HF.out.b3.far (p:=⟨g,an,none⟩) (fun e=>Kj e.symm) (.string ⟨#[]⟩);have Kn:=HF.out.low.setCell (p:=⟨g,an,none⟩) (by show w.heap.size<=g;omega) (.string ⟨#[]⟩);go_region
 rename_i hK
 refine hK _ _ (Go.wp_ret ?_);obtain ⟨Ko,Kp,Kq⟩:=zEc Kl Km (by omega) (.slice (some ⟨g,0,none⟩) 6 c) (.slice A2 x.snaps.length c2) (.int .i64 0) (.int .i64 0) (.string ⟨#[]⟩);have Kr:=Ko.drew;have Ks:=Kp.drew;obtain ⟨r0,r1⟩:=cz2 Kr;obtain ⟨r2,r3,r4⟩:=cz3 Ks;refine bodyPost_ret (v:=.tuple #[.agg #[(.slice (some ⟨g,0,none⟩) 6 c),(.slice A2 x.snaps.length c2)],.agg #[.int .i64 0,.int .i64 0,.string ⟨#[]⟩],.int .i64 0]) (by simp [results,Tryz.results97,go_sem,r0,r1,r2,r3,r4]) rfl ?_;exact ⟨⟨_,_,rfl,((Kk.base_ Hg).same Kq).below (mG _ _).drew⟩,(zBr Kn (by omega) (by omega) _ _ _ _ _).drew⟩
theorem zVf (A0:Option Addr) (n0 c0:Nat) (A1:Option Addr) (n1 c1:Nat) (x:Scu.Volume) (an:Nat) (d:Scu.Str) (w:World) (B:Nat) (hv:IsVolume w B (.slice A0 n0 c0) (.slice A1 n1 c1) x)
 (hf:¬ Scu.volFault x≠0) (ho:¬ Scu.opFault ⟨3,an,0,d⟩≠0) (Kz:an < 6) :
 Calls Tryz.prog 97 #[.agg #[.slice A0 n0 c0,.slice A1 n1 c1],.agg #[.int .i64 3,.int .i64 an,.int .i64 0,.string d]] w fun e w'=>DidRet w' w.heap.size (x,(⟨0,0,x.now.getD an Scu.str0⟩:Scu.Reply),0) e/\Below w.heap.size w w':=by
 have HV:=mA hv;have Va:(Scu.volFault x != 0)=false:=by simpa using hf
 have Vb:(Scu.volFault x == 0)=true:=by simpa using hf
 have Hm:=Decidable.not_not.1 ho;have Ka:=mA (fun W=>zDu _ W Hm);obtain ⟨Hn,Vc,Kb,Ho⟩:=zAu hf;have Vd:=mA Ho;clear hv hf ho Hm Kb Ho;have Hk:x.now.getD an Scu.str0=x.now[an]'(by omega):=by
  rw [mI,mH (by omega)];rfl
 rw [Hk];clear Hk;have Kc:¬ (x.snaps.length:Int) < 0:=by omega
 obtain ⟨rfl⟩:n1=x.snaps.length:=by
  obtain ⟨⟨_,_,_,e,_⟩,_⟩:=HV.out.snaps;cases e
  rfl
 go_enter Tryz.func97,Tryz.ntmps97
 go_wp2_with fail
 refine (zBg _ _ x _ B ((((HV.out.alloc _).alloc _).alloc _).alloc _)).mono ?_;rintro e w1 ⟨rfl,h1⟩;have Hb:=(Four.start w _ _ _ _ _ _ _ _ _ _).below h1;have Kd:w.heap.size+1+1+1 < w1.heap.size:=Hb.b3.lt;have Hp:w.heap.size < w1.heap.size:=by omega
 have Hq:w.heap.size+1 < w1.heap.size:=by omega
 have Hr:w.heap.size+1+1 < w1.heap.size:=by omega
 obtain ⟨z0,z1⟩:=cz2 Hb.b0;obtain ⟨z2,z3,z4,z5⟩:=cz4 Hb.b1;obtain ⟨z6,z7⟩:=cz2 Hb.b2;obtain ⟨z8,z9,zx⟩:=cz3 Hb.b3;have zu:=Hb.b0.frozen;have zv:=Hb.b2.frozen;have zw:=Hb.b3.frozen;go_wp2_with fail
 refine (Ka.out _).mono ?_;rintro e w2 ⟨rfl,h2⟩;have Ha:=Hb.below h2;have Ke:w.heap.size+1+1+1 < w2.heap.size:=Ha.b3.lt;have Hs:w.heap.size < w2.heap.size:=by omega
 have Ht:w.heap.size+1 < w2.heap.size:=by omega
 have Hu:w.heap.size+1+1 < w2.heap.size:=by omega
 obtain ⟨y0,y1⟩:=cz2 Ha.b0;obtain ⟨y2,y3,y4,y5⟩:=cz4 Ha.b1;obtain ⟨y6,y7⟩:=cz2 Ha.b2;obtain ⟨y8,y9,yx⟩:=cz3 Ha.b3;have yu:=Ha.b0.frozen;have yv:=Ha.b2.frozen;have yw:=Ha.b3.frozen;go_wp2_with fail
 refine (zCv _ _ x _ B (HV.out.below Ha.low)).mono ?_;rintro e w3 ⟨⟨nu,su,rfl,hu⟩,h3⟩;obtain ⟨⟨A2,c2,_,rfl,_,_,_,_⟩,_⟩:=hu.is.snaps;have Hd:=hu.now;rw [Hn] at Hd;obtain ⟨g,c,cur,rfl,hg,Hf,Hh⟩:=zCj Hd (by omega);have Hc:=Ha.below h3;have Kf:w.heap.size+1+1+1 < w3.heap.size:=Hc.b3.lt;have Hv:w.heap.size < w3.heap.size:=by omega
 have Hw:w.heap.size+1 < w3.heap.size:=by omega
 have Hx:w.heap.size+1+1 < w3.heap.size:=by omega
 have Kg:=Hf.lt;have Kh:=h3.size;have Ki:=Ha.low.size;obtain ⟨x0,x1⟩:=cz2 Hc.b0;obtain ⟨x2,x3,x4,x5⟩:=cz4 Hc.b1;obtain ⟨x6,x7⟩:=cz2 Hc.b2;obtain ⟨x8,x9,xx⟩:=cz3 Hc.b3;have xu:=Hc.b0.frozen;have xv:=Hc.b2.frozen;have xw:=Hc.b3.frozen;have HU:=mA hu;have Hy:=mA Hc;clear h1 h2 h3 Hb Ha Hc Hd Hh hu Hf;go_upto_region 8 with fail
 obtain ⟨Wd,He⟩:=mJ ((w3.alloc (.cells #[(.slice (some ⟨g,0,none⟩) 6 c),(.slice A2 x.snaps.length c2)] 88)).alloc (.cells #[.int .i64 0,.int .i64 0,.string ⟨#[]⟩] 69));rw [<- He];have Ve:Wd.heap.size=w3.heap.size+1+1:=by rw [He];simp
 have Hl:Below w3.heap.size w3 Wd:=by rw [He];exact (zAa w3 _).alloc (by simp) _
 have Hi:Blk Wd w3.heap.size 88 #[(.slice (some ⟨g,0,none⟩) 6 c),(.slice A2 x.snaps.length c2)]:=by rw [He];exact (Blk.new w3 _ _).alloc _
 have Hj:Blk Wd (w3.heap.size+1) 69 #[.int .i64 0,.int .i64 0,.string ⟨#[]⟩]:=by rw [He];exact Blk.new' (by simp)
 have hF:=Hy.out.below Hl;have hO:=HU.out.below Hl;have Hz:=HV.out.below hF.low;clear HU Hy He Hl x0 x1 x2 x3 x4 x5 x6 x7 x8 x9 xx xu xv xw y0 y1 y2 y3 y4 y5 y6 y7 y8 y9 yx yu yv yw z0 z1 z2 z3 z4 z5 z6 z7 z8 z9 zx zu zv zw;obtain ⟨d0,d1⟩:=cz2 hF.b0;obtain ⟨d2,d3,d4,d5⟩:=cz4 hF.b1;obtain ⟨d6,d7⟩:=cz2 hF.b2;obtain ⟨d8,d9,dx⟩:=cz3 hF.b3;have du:=hF.b0.frozen;have dv:=hF.b2.frozen;have dw:=hF.b3.frozen;obtain ⟨v0,v1⟩:=cz2 Hi;obtain ⟨k0,k1,k2⟩:=cz3 Hj;have vz:=Hi.frozen;have kz:=Hj.frozen;have Hd:=hO.now;rw [Hn] at Hd;obtain ⟨g',c',cur,e',_,Hf,Hh⟩:=zCj Hd (by omega);obtain ⟨rfl,rfl⟩:g=g'/\c=c':=by cases e';exact ⟨rfl,rfl⟩
 have Vf:=Hf.frozen;have Vg:Wd.cell? ⟨g,an,none⟩=some (.string (x.now[an]'(by omega))):=by rw [Hh an (by omega),List.getElem?_map,mH (by omega)];rfl
 have Vh:(an:Int) < 6:=by omega
 have Hk:g < Wd.heap.size:=by omega
 have Vi:w3.heap.size < Wd.heap.size:=by omega
 have Vj:w3.heap.size+1 < Wd.heap.size:=by omega
 have Vk:g≠w.heap.size:=by omega
 have Vl:g≠w.heap.size+1:=by omega
 have Vm:g≠w.heap.size+1+1:=by omega
 have Vn:g≠w.heap.size+1+1+1:=by omega
 have Vo:g≠w3.heap.size:=by omega
 have Vp:g≠w3.heap.size+1:=by omega
 have Vq:w3.heap.size≠w.heap.size:=by omega
 have Vr:w3.heap.size≠w.heap.size+1:=by omega
 have Vs:w3.heap.size≠w.heap.size+1+1:=by omega
 have Vt:w3.heap.size≠w.heap.size+1+1+1:=by omega
 have Vu:w3.heap.size+1≠w.heap.size:=by omega
 have Vv:w3.heap.size+1≠w.heap.size+1:=by omega
 have Kj:w3.heap.size+1≠w.heap.size+1+1:=by omega
 have Kk:w3.heap.size+1≠w.heap.size+1+1+1:=by omega
 have Vw:w.heap.size < Wd.heap.size:=by omega
 have Vx:w.heap.size+1 < Wd.heap.size:=by omega
 have Vy:w.heap.size+1+1 < Wd.heap.size:=by omega
 have Vz:w.heap.size+1+1+1 < Wd.heap.size:=by omega
 have Hg:w.heap.size<=w2.heap.size:=by omega
 have HO:=mA hO;have HF:=mA hF;have Kl:=mA Hz;have Ga:=mA Hi;have Km:=mA Hj;clear hO hF Hz Hi Hj Hd Hf Hh e';obtain ⟨q2,o2,c2',e2,Kn,Ko⟩:=zNb (k:=an) Kl.out.now (by omega);obtain ⟨rfl,rfl,rfl⟩:A0=some ⟨q2,o2,none⟩/\n0=x.now.length/\c0=c2':=by cases e2;exact ⟨rfl,rfl,rfl⟩
 clear e2;have Kp:(an:Int) < (x.now.length:Int):=by omega
 go_wp2_with fail
 have Kq:=HO.out.set_ (i:=2) Km.out (by decide) (by decide) (.string (x.now[an]'(by omega)));have Kr:=HF.out.b2.far (p:=⟨w3.heap.size+1,2,none⟩) (fun e=>Kj e.symm) (.string (x.now[an]'(by omega)));have Ks:=HF.out.b3.far (p:=⟨w3.heap.size+1,2,none⟩) (fun e=>Kk e.symm) (.string (x.now[an]'(by omega)));have Kt:=HF.out.low.setCell (p:=⟨w3.heap.size+1,2,none⟩) (by show w.heap.size<=w3.heap.size+1;omega) (.string (x.now[an]'(by omega)));go_region
 rename_i hK
 refine hK _ _ (Go.wp_ret ?_);obtain ⟨Ku,Kv,Kw⟩:=zEc Kr Ks (by omega) (.slice (some ⟨g,0,none⟩) 6 c) (.slice A2 x.snaps.length c2) (.int .i64 0) (.int .i64 0) (.string (x.now[an]'(by omega)));have Kx:=Ku.drew;have Ky:=Kv.drew;obtain ⟨r0,r1⟩:=cz2 Kx;obtain ⟨r2,r3,r4⟩:=cz3 Ky;refine bodyPost_ret (v:=.tuple #[.agg #[(.slice (some ⟨g,0,none⟩) 6 c),(.slice A2 x.snaps.length c2)],.agg #[.int .i64 0,.int .i64 0,.string (x.now[an]'(by omega))],.int .i64 0]) (by simp [results,Tryz.results97,go_sem,r0,r1,r2,r3,r4]) rfl ?_;exact ⟨⟨_,_,rfl,((Kq.base_ Hg).same Kw).below (mG _ _).drew⟩,(zBr Kt (by omega) (by omega) _ _ _ _ _).drew⟩
theorem zVg (A0:Option Addr) (n0 c0:Nat) (A1:Option Addr) (n1 c1:Nat) (x:Scu.Volume) (an sn:Nat) (d:Scu.Str) (w:World) (B:Nat) (hv:IsVolume w B (.slice A0 n0 c0) (.slice A1 n1 c1) x)
 (hf:¬ Scu.volFault x≠0) (ho:¬ Scu.opFault ⟨3,an,(sn:Int)+1,d⟩≠0) (Kv:an < 6) (Hz:x.snaps.length < sn+1) :
 Calls Tryz.prog 97 #[.agg #[.slice A0 n0 c0,.slice A1 n1 c1],.agg #[.int .i64 3,.int .i64 an,.int .i64 ((sn:Int)+1),.string d]] w fun e w'=>DidRet w' w.heap.size (x,(⟨6,0,Scu.str0⟩:Scu.Reply),0) e/\Below w.heap.size w w':=by
 have HV:=mA hv;have Kw:(Scu.volFault x != 0)=false:=by simpa using hf
 have Kx:(Scu.volFault x == 0)=true:=by simpa using hf
 have Hl:=Decidable.not_not.1 ho;have Ka:=mA (fun W=>zDu _ W Hl);obtain ⟨Hm,Ky,Kb,Hn⟩:=zAu hf;have Kz:=mA Hn;clear hv hf ho Hl Kb Hn;have Kc:(x.snaps.length:Int) < (sn:Int)+1:=by omega
 clear Hz;obtain ⟨rfl⟩:n1=x.snaps.length:=by
  obtain ⟨⟨_,_,_,e,_⟩,_⟩:=HV.out.snaps;cases e
  rfl
 go_enter Tryz.func97,Tryz.ntmps97
 go_wp2_with fail
 refine (zBg _ _ x _ B ((((HV.out.alloc _).alloc _).alloc _).alloc _)).mono ?_;rintro e w1 ⟨rfl,h1⟩;have Hb:=(Four.start w _ _ _ _ _ _ _ _ _ _).below h1;have Kd:w.heap.size+1+1+1 < w1.heap.size:=Hb.b3.lt;have Ho:w.heap.size < w1.heap.size:=by omega
 have Hp:w.heap.size+1 < w1.heap.size:=by omega
 have Hq:w.heap.size+1+1 < w1.heap.size:=by omega
 obtain ⟨z0,z1⟩:=cz2 Hb.b0;obtain ⟨z2,z3,z4,z5⟩:=cz4 Hb.b1;obtain ⟨z6,z7⟩:=cz2 Hb.b2;obtain ⟨z8,z9,zx⟩:=cz3 Hb.b3;have zu:=Hb.b0.frozen;have zv:=Hb.b2.frozen;have zw:=Hb.b3.frozen;go_wp2_with fail
 refine (Ka.out _).mono ?_;rintro e w2 ⟨rfl,h2⟩;have Ha:=Hb.below h2;have Ke:w.heap.size+1+1+1 < w2.heap.size:=Ha.b3.lt;have Hr:w.heap.size < w2.heap.size:=by omega
 have Hs:w.heap.size+1 < w2.heap.size:=by omega
 have Ht:w.heap.size+1+1 < w2.heap.size:=by omega
 obtain ⟨y0,y1⟩:=cz2 Ha.b0;obtain ⟨y2,y3,y4,y5⟩:=cz4 Ha.b1;obtain ⟨y6,y7⟩:=cz2 Ha.b2;obtain ⟨y8,y9,yx⟩:=cz3 Ha.b3;have yu:=Ha.b0.frozen;have yv:=Ha.b2.frozen;have yw:=Ha.b3.frozen;go_wp2_with fail
 refine (zCv _ _ x _ B (HV.out.below Ha.low)).mono ?_;rintro e w3 ⟨⟨nu,su,rfl,hu⟩,h3⟩;obtain ⟨⟨A2,c2,_,rfl,_,_,_,_⟩,_⟩:=hu.is.snaps;have Hd:=hu.now;rw [Hm] at Hd;obtain ⟨g,c,cur,rfl,hg,Hf,Hh⟩:=zCj Hd (by omega);have Hc:=Ha.below h3;have Kf:w.heap.size+1+1+1 < w3.heap.size:=Hc.b3.lt;have Hu:w.heap.size < w3.heap.size:=by omega
 have Hv:w.heap.size+1 < w3.heap.size:=by omega
 have Hw:w.heap.size+1+1 < w3.heap.size:=by omega
 have Kg:=Hf.lt;have Kh:=h3.size;have Ki:=Ha.low.size;obtain ⟨x0,x1⟩:=cz2 Hc.b0;obtain ⟨x2,x3,x4,x5⟩:=cz4 Hc.b1;obtain ⟨x6,x7⟩:=cz2 Hc.b2;obtain ⟨x8,x9,xx⟩:=cz3 Hc.b3;have xu:=Hc.b0.frozen;have xv:=Hc.b2.frozen;have xw:=Hc.b3.frozen;have HU:=mA hu;have Hx:=mA Hc;clear h1 h2 h3 Hb Ha Hc Hd Hh hu Hf;go_upto_region 8 with fail
 obtain ⟨Wd,He⟩:=mJ ((w3.alloc (.cells #[(.slice (some ⟨g,0,none⟩) 6 c),(.slice A2 x.snaps.length c2)] 88)).alloc (.cells #[.int .i64 0,.int .i64 0,.string ⟨#[]⟩] 69));rw [<- He];have Va:Wd.heap.size=w3.heap.size+1+1:=by rw [He];simp
 have Hk:Below w3.heap.size w3 Wd:=by rw [He];exact (zAa w3 _).alloc (by simp) _
 have Hi:Blk Wd w3.heap.size 88 #[(.slice (some ⟨g,0,none⟩) 6 c),(.slice A2 x.snaps.length c2)]:=by rw [He];exact (Blk.new w3 _ _).alloc _
 have Hj:Blk Wd (w3.heap.size+1) 69 #[.int .i64 0,.int .i64 0,.string ⟨#[]⟩]:=by rw [He];exact Blk.new' (by simp)
 have hF:=Hx.out.below Hk;have hO:=HU.out.below Hk;have Hy:=HV.out.below hF.low;clear HU Hx He Hk x0 x1 x2 x3 x4 x5 x6 x7 x8 x9 xx xu xv xw y0 y1 y2 y3 y4 y5 y6 y7 y8 y9 yx yu yv yw z0 z1 z2 z3 z4 z5 z6 z7 z8 z9 zx zu zv zw;obtain ⟨d0,d1⟩:=cz2 hF.b0;obtain ⟨d2,d3,d4,d5⟩:=cz4 hF.b1;obtain ⟨d6,d7⟩:=cz2 hF.b2;obtain ⟨d8,d9,dx⟩:=cz3 hF.b3;have du:=hF.b0.frozen;have dv:=hF.b2.frozen;have dw:=hF.b3.frozen;obtain ⟨v0,v1⟩:=cz2 Hi;obtain ⟨k0,k1,k2⟩:=cz3 Hj;have vz:=Hi.frozen;have kz:=Hj.frozen;have Hd:=hO.now;rw [Hm] at Hd;obtain ⟨g',c',cur,e',_,Hf,Hh⟩:=zCj Hd (by omega);obtain ⟨rfl,rfl⟩:g=g'/\c=c':=by cases e';exact ⟨rfl,rfl⟩
 have Vb:=Hf.frozen;have Vc:Wd.cell? ⟨g,an,none⟩=some (.string (x.now[an]'(by omega))):=by rw [Hh an (by omega),List.getElem?_map,mH (by omega)];rfl
 have Vd:(an:Int) < 6:=by omega
 have Ve:g < Wd.heap.size:=by omega
 have Vf:w3.heap.size < Wd.heap.size:=by omega
 have Vg:w3.heap.size+1 < Wd.heap.size:=by omega
 have Vh:g≠w.heap.size:=by omega
 have Vi:g≠w.heap.size+1:=by omega
 have Vj:g≠w.heap.size+1+1:=by omega
 have Vk:g≠w.heap.size+1+1+1:=by omega
 have Vl:g≠w3.heap.size:=by omega
 have Vm:g≠w3.heap.size+1:=by omega
 have Vn:w3.heap.size≠w.heap.size:=by omega
 have Vo:w3.heap.size≠w.heap.size+1:=by omega
 have Vp:w3.heap.size≠w.heap.size+1+1:=by omega
 have Vq:w3.heap.size≠w.heap.size+1+1+1:=by omega
 have Vr:w3.heap.size+1≠w.heap.size:=by omega
 have Vs:w3.heap.size+1≠w.heap.size+1:=by omega
 have Kj:w3.heap.size+1≠w.heap.size+1+1:=by omega
 have Kk:w3.heap.size+1≠w.heap.size+1+1+1:=by omega
 have Vt:w.heap.size < Wd.heap.size:=by omega
 have Vu:w.heap.size+1 < Wd.heap.size:=by omega
 have Vv:w.heap.size+1+1 < Wd.heap.size:=by omega
 have Vw:w.heap.size+1+1+1 < Wd.heap.size:=by omega
 have Hg:w.heap.size<=w2.heap.size:=by omega
 have HO:=mA hO;have HF:=mA hF;have Vx:=mA Hy;have Vy:=mA Hi;have Kl:=mA Hj;clear hO hF Hy Hi Hj Hd Hf Hh e';go_wp2_with fail
 have Km:=HO.out.set_ (i:=0) Kl.out (by decide) (by decide) (.int .i64 6);have Kn:=HF.out.b2.far (p:=⟨w3.heap.size+1,0,none⟩) (fun e=>Kj e.symm) (.int .i64 6);have Ko:=HF.out.b3.far (p:=⟨w3.heap.size+1,0,none⟩) (fun e=>Kk e.symm) (.int .i64 6);have Kp:=HF.out.low.setCell (p:=⟨w3.heap.size+1,0,none⟩) (by show w.heap.size<=w3.heap.size+1;omega) (.int .i64 6);go_region
 rename_i hK
 refine hK _ _ (Go.wp_ret ?_);obtain ⟨Kq,Kr,Ks⟩:=zEc Kn Ko (by omega) (.slice (some ⟨g,0,none⟩) 6 c) (.slice A2 x.snaps.length c2) (.int .i64 6) (.int .i64 0) (.string ⟨#[]⟩);have Kt:=Kq.drew;have Ku:=Kr.drew;obtain ⟨r0,r1⟩:=cz2 Kt;obtain ⟨r2,r3,r4⟩:=cz3 Ku;refine bodyPost_ret (v:=.tuple #[.agg #[(.slice (some ⟨g,0,none⟩) 6 c),(.slice A2 x.snaps.length c2)],.agg #[.int .i64 6,.int .i64 0,.string ⟨#[]⟩],.int .i64 0]) (by simp [results,Tryz.results97,go_sem,r0,r1,r2,r3,r4]) rfl ?_;exact ⟨⟨_,_,rfl,((Km.base_ Hg).same Ks).below (mG _ _).drew⟩,(zBr Kp (by omega) (by omega) _ _ _ _ _).drew⟩
theorem zVh (A0:Option Addr) (n0 c0:Nat) (A1:Option Addr) (n1 c1:Nat) (x:Scu.Volume) (an sn:Nat) (d:Scu.Str) (w:World) (B:Nat) (hv:IsVolume w B (.slice A0 n0 c0) (.slice A1 n1 c1) x)
 (hf:¬ Scu.volFault x≠0) (ho:¬ Scu.opFault ⟨3,an,(sn:Int)+1,d⟩≠0) (Vm:an < 6) (Hq:sn < x.snaps.length) :
 Calls Tryz.prog 97 #[.agg #[.slice A0 n0 c0,.slice A1 n1 c1],.agg #[.int .i64 3,.int .i64 an,.int .i64 ((sn:Int)+1),.string d]] w fun e w'=>DidRet w' w.heap.size (x,(⟨0,0,(x.snaps.getD sn []).getD an Scu.str0⟩:Scu.Reply),0) e/\Below w.heap.size w w':=by
 have HV:=mA hv;have Vn:(Scu.volFault x != 0)=false:=by simpa using hf
 have Vo:(Scu.volFault x == 0)=true:=by simpa using hf
 have Hw:=Decidable.not_not.1 ho;have Km:=mA (fun W=>zDu _ W Hw);obtain ⟨Hx,Vp,Kn,Hy⟩:=zAu hf;have Ko:=mA Hy;clear hv hf ho Hw Kn Hy;have Kp:(sn:Int)+1<=(x.snaps.length:Int):=by omega
 have Kq:(sn:Int) < (x.snaps.length:Int):=by omega
 have Kr:¬ (x.snaps.length:Int) < (sn:Int)+1:=by omega
 have Ks:(0:Int) < (sn:Int)+1:=by omega
 have h6:an < x.snaps[sn].length:=by rw [(Ko.out _ (List.getElem_mem Hq)).1];omega
 have Vq:(an:Int) < (x.snaps[sn].length:Int):=by omega
 have Hr:(x.snaps.getD sn []).getD an Scu.str0=x.snaps[sn][an]:=by
  rw [mI (l:=x.snaps),mH Hq,Option.getD_some,mI,mH h6];rfl
 rw [Hr];clear Hr;obtain ⟨rfl⟩:n1=x.snaps.length:=by
  obtain ⟨⟨_,_,_,e,_⟩,_⟩:=HV.out.snaps;cases e
  rfl
 go_enter Tryz.func97,Tryz.ntmps97
 go_wp2_with fail
 refine (zBg _ _ x _ B ((((HV.out.alloc _).alloc _).alloc _).alloc _)).mono ?_;rintro e w1 ⟨rfl,h1⟩;have Hb:=(Four.start w _ _ _ _ _ _ _ _ _ _).below h1;have Kt:w.heap.size+1+1+1 < w1.heap.size:=Hb.b3.lt;have Hz:w.heap.size < w1.heap.size:=by omega
 have Ka:w.heap.size+1 < w1.heap.size:=by omega
 have Kb:w.heap.size+1+1 < w1.heap.size:=by omega
 obtain ⟨z0,z1⟩:=cz2 Hb.b0;obtain ⟨z2,z3,z4,z5⟩:=cz4 Hb.b1;obtain ⟨z6,z7⟩:=cz2 Hb.b2;obtain ⟨z8,z9,zx⟩:=cz3 Hb.b3;have zu:=Hb.b0.frozen;have zv:=Hb.b2.frozen;have zw:=Hb.b3.frozen;go_wp2_with fail
 refine (Km.out _).mono ?_;rintro e w2 ⟨rfl,h2⟩;have Ha:=Hb.below h2;have Ku:w.heap.size+1+1+1 < w2.heap.size:=Ha.b3.lt;have Kc:w.heap.size < w2.heap.size:=by omega
 have Kd:w.heap.size+1 < w2.heap.size:=by omega
 have Ke:w.heap.size+1+1 < w2.heap.size:=by omega
 obtain ⟨y0,y1⟩:=cz2 Ha.b0;obtain ⟨y2,y3,y4,y5⟩:=cz4 Ha.b1;obtain ⟨y6,y7⟩:=cz2 Ha.b2;obtain ⟨y8,y9,yx⟩:=cz3 Ha.b3;have yu:=Ha.b0.frozen;have yv:=Ha.b2.frozen;have yw:=Ha.b3.frozen;go_wp2_with fail
 refine (zCv _ _ x _ B (HV.out.below Ha.low)).mono ?_;rintro e w3 ⟨⟨nu,su,rfl,hu⟩,h3⟩;obtain ⟨⟨A2,c2,_,rfl,_,_,_,_⟩,_⟩:=hu.is.snaps;have Hf:=hu.now;rw [Hx] at Hf;obtain ⟨g,c,cur,rfl,hg,Hh,Hm⟩:=zCj Hf (by omega);have Hc:=Ha.below h3;have Kv:w.heap.size+1+1+1 < w3.heap.size:=Hc.b3.lt;have Kf:w.heap.size < w3.heap.size:=by omega
 have Kg:w.heap.size+1 < w3.heap.size:=by omega
 have Kh:w.heap.size+1+1 < w3.heap.size:=by omega
 have Kw:=Hh.lt;have Kx:=h3.size;have Ky:=Ha.low.size;obtain ⟨x0,x1⟩:=cz2 Hc.b0;obtain ⟨x2,x3,x4,x5⟩:=cz4 Hc.b1;obtain ⟨x6,x7⟩:=cz2 Hc.b2;obtain ⟨x8,x9,xx⟩:=cz3 Hc.b3;have xu:=Hc.b0.frozen;have xv:=Hc.b2.frozen;have xw:=Hc.b3.frozen;have HU:=mA hu;have Ki:=mA Hc;clear h1 h2 h3 Hb Ha Hc Hf Hm hu Hh;go_upto_region 8 with fail
 obtain ⟨Wd,Hg⟩:=mJ ((w3.alloc (.cells #[(.slice (some ⟨g,0,none⟩) 6 c),(.slice A2 x.snaps.length c2)] 88)).alloc (.cells #[.int .i64 0,.int .i64 0,.string ⟨#[]⟩] 69));rw [<- Hg];have Vr:Wd.heap.size=w3.heap.size+1+1:=by rw [Hg];simp
 have Hs:Below w3.heap.size w3 Wd:=by rw [Hg];exact (zAa w3 _).alloc (by simp) _
 have Hn:Blk Wd w3.heap.size 88 #[(.slice (some ⟨g,0,none⟩) 6 c),(.slice A2 x.snaps.length c2)]:=by rw [Hg];exact (Blk.new w3 _ _).alloc _
 have Ho:Blk Wd (w3.heap.size+1) 69 #[.int .i64 0,.int .i64 0,.string ⟨#[]⟩]:=by rw [Hg];exact Blk.new' (by simp)
 have hF:=Ki.out.below Hs;have hO:=HU.out.below Hs;have Kj:=HV.out.below hF.low;clear HU Ki Hg Hs x0 x1 x2 x3 x4 x5 x6 x7 x8 x9 xx xu xv xw y0 y1 y2 y3 y4 y5 y6 y7 y8 y9 yx yu yv yw z0 z1 z2 z3 z4 z5 z6 z7 z8 z9 zx zu zv zw;obtain ⟨d0,d1⟩:=cz2 hF.b0;obtain ⟨d2,d3,d4,d5⟩:=cz4 hF.b1;obtain ⟨d6,d7⟩:=cz2 hF.b2;obtain ⟨d8,d9,dx⟩:=cz3 hF.b3;have du:=hF.b0.frozen;have dv:=hF.b2.frozen;have dw:=hF.b3.frozen;obtain ⟨v0,v1⟩:=cz2 Hn;obtain ⟨k0,k1,k2⟩:=cz3 Ho;have vz:=Hn.frozen;have kz:=Ho.frozen;have Hf:=hO.now;rw [Hx] at Hf;obtain ⟨g',c',cur,e',_,Hh,Hm⟩:=zCj Hf (by omega);obtain ⟨rfl,rfl⟩:g=g'/\c=c':=by cases e';exact ⟨rfl,rfl⟩
 have Kz:=Hh.frozen;have Va:Wd.cell? ⟨g,an,none⟩=some (.string (x.now[an]'(by omega))):=by rw [Hm an (by omega),List.getElem?_map,mH (by omega)];rfl
 have Vs:(an:Int) < 6:=by omega
 have Hr:g < Wd.heap.size:=by omega
 have Vt:w3.heap.size < Wd.heap.size:=by omega
 have Vu:w3.heap.size+1 < Wd.heap.size:=by omega
 have Vv:g≠w.heap.size:=by omega
 have Vw:g≠w.heap.size+1:=by omega
 have Vx:g≠w.heap.size+1+1:=by omega
 have Vy:g≠w.heap.size+1+1+1:=by omega
 have Vz:g≠w3.heap.size:=by omega
 have Ga:g≠w3.heap.size+1:=by omega
 have Gb:w3.heap.size≠w.heap.size:=by omega
 have Gc:w3.heap.size≠w.heap.size+1:=by omega
 have Gd:w3.heap.size≠w.heap.size+1+1:=by omega
 have Ge:w3.heap.size≠w.heap.size+1+1+1:=by omega
 have Gf:w3.heap.size+1≠w.heap.size:=by omega
 have Gg:w3.heap.size+1≠w.heap.size+1:=by omega
 have Vb:w3.heap.size+1≠w.heap.size+1+1:=by omega
 have Vc:w3.heap.size+1≠w.heap.size+1+1+1:=by omega
 have Gh:w.heap.size < Wd.heap.size:=by omega
 have Gi:w.heap.size+1 < Wd.heap.size:=by omega
 have Gj:w.heap.size+1+1 < Wd.heap.size:=by omega
 have Gk:w.heap.size+1+1+1 < Wd.heap.size:=by omega
 have Hi:w.heap.size<=w2.heap.size:=by omega
 have HO:=mA hO;have HF:=mA hF;have Vd:=mA Kj;have Ve:=mA Hn;have Kk:=mA Ho;clear hO hF Kj Hn Ho Hf Hh Hm e';obtain ⟨q1,o1,c1',p1,e1,Gl,Ht,Kl⟩:=zSn Vd.out.snaps Hq;obtain ⟨q2,o2,c2',rfl,Vf,Hu⟩:=zNb Kl h6;obtain ⟨rfl,rfl⟩:A1=some ⟨q1,o1,none⟩/\c1=c1':=by cases e1;exact ⟨rfl,rfl⟩
 clear e1 Kl;go_wp2_with fail
 go_region
 go_wp2_with fail
 have Hp:=(Ve.out.far (p:=⟨w3.heap.size+1,2,none⟩) (by simp) (.string x.snaps[sn][an])).drew;have Hj:Blk _ (w3.heap.size+1) 69 #[.int .i64 0,.int .i64 0,.string x.snaps[sn][an]]:=(Kk.out.set_ 2 (.string x.snaps[sn][an])).drew;have Hd:=(HF.out.b2.far (p:=⟨w3.heap.size+1,2,none⟩) (fun e=>Vb e.symm) (.string x.snaps[sn][an])).drew;have He:=(HF.out.b3.far (p:=⟨w3.heap.size+1,2,none⟩) (fun e=>Vc e.symm) (.string x.snaps[sn][an])).drew;have Hk:=(HO.out.set_ (i:=2) Kk.out (by decide) (by decide) (.string x.snaps[sn][an])).below (mG _ _).drew;have Hl:=(HF.out.low.setCell (p:=⟨w3.heap.size+1,2,none⟩) (by show w.heap.size<=w3.heap.size+1;omega) (.string x.snaps[sn][an])).drew;obtain ⟨We,Hv⟩:=mJ ((Wd.setCell ⟨w3.heap.size+1,2,none⟩ (.string x.snaps[sn][an])).drew);rw [<- Hv] at Hp Hj Hd He Hk Hl ⊢;have Vg:Wd.heap.size<=We.heap.size:=by rw [Hv];simp [World.setCell]
 clear d0 d1 d2 d3 d4 d5 d6 d7 d8 d9 dx du dv dw v0 v1 k0 k1 k2 vz kz Va Kz Ht Hu Hv;obtain ⟨d0,d1⟩:=cz2 Hp;obtain ⟨g0,g1,g2⟩:=cz3 Hj;obtain ⟨p0,p1⟩:=cz2 Hd;obtain ⟨s0,s1,s2⟩:=cz3 He;have gz:=Hj.frozen;have pz:=Hd.frozen;have sz:=He.frozen;have m0:=Hp.lt;have m1:=Hj.lt;have m2:=Hd.lt;have m3:=He.lt;have HX:=mA (mB Hd (mB He (mB Hk Hl)));clear Hp Hj Hd He Hk Hl;go_region
 have Hd:=HX.out.1;have He:=HX.out.2.1;have Hk:=HX.out.2.2.1;have Hl:=HX.out.2.2.2;rename_i hK
 refine hK _ _ (Go.wp_ret ?_);obtain ⟨Vh,Vi,Vj⟩:=zEc Hd He (by omega) (.slice (some ⟨g,0,none⟩) 6 c) (.slice A2 x.snaps.length c2) (.int .i64 0) (.int .i64 0) (.string x.snaps[sn][an]);have Vk:=Vh.drew;have Vl:=Vi.drew;obtain ⟨r0,r1⟩:=cz2 Vk;obtain ⟨r2,r3,r4⟩:=cz3 Vl;refine bodyPost_ret (v:=.tuple #[.agg #[(.slice (some ⟨g,0,none⟩) 6 c),(.slice A2 x.snaps.length c2)],.agg #[.int .i64 0,.int .i64 0,.string x.snaps[sn][an]],.int .i64 0]) (by simp [results,Tryz.results97,go_sem,r0,r1,r2,r3,r4]) rfl ?_;exact ⟨⟨_,_,rfl,((Hk.base_ Hi).same Vj).below (mG _ _).drew⟩,(zBr Hl (by omega) (by omega) _ _ _ _ _).drew⟩
theorem zVi (A0:Option Addr) (n0 c0:Nat) (A1:Option Addr) (n1 c1:Nat) (x:Scu.Volume) (d:Scu.Str) (w:World) (B:Nat) (hv:IsVolume w B (.slice A0 n0 c0) (.slice A1 n1 c1) x)
 (hf:¬ Scu.volFault x≠0) (ho:¬ Scu.opFault ⟨4,0,0,d⟩≠0) (h3:x.snaps.length=3) :
 Calls Tryz.prog 97 #[.agg #[.slice A0 n0 c0,.slice A1 n1 c1],.agg #[.int .i64 4,.int .i64 0,.int .i64 0,.string d]] w fun e w'=>DidRet w' w.heap.size (x,(⟨7,0,Scu.str0⟩:Scu.Reply),0) e/\Below w.heap.size w w':=by
 have HV:=mA hv;have Ku:(Scu.volFault x != 0)=false:=by simpa using hf
 have Kv:(Scu.volFault x == 0)=true:=by simpa using hf
 have Hl:=Decidable.not_not.1 ho;have Hz:=mA (fun W=>zDu _ W Hl);obtain ⟨Hm,Kw,Ka,Hn⟩:=zAu hf;have Kx:=mA Hn;clear hv hf ho Hl Ka Hn;have Ky:(3:Int)<=(x.snaps.length:Int):=by omega
 obtain ⟨an,Kb⟩:=mJ (0);have Kz:an < 6:=by omega
 clear h3;obtain ⟨rfl⟩:n1=x.snaps.length:=by
  obtain ⟨⟨_,_,_,e,_⟩,_⟩:=HV.out.snaps;cases e
  rfl
 go_enter Tryz.func97,Tryz.ntmps97
 go_wp2_with fail
 refine (zBg _ _ x _ B ((((HV.out.alloc _).alloc _).alloc _).alloc _)).mono ?_;rintro e w1 ⟨rfl,h1⟩;have Hb:=(Four.start w _ _ _ _ _ _ _ _ _ _).below h1;have Kc:w.heap.size+1+1+1 < w1.heap.size:=Hb.b3.lt;have Ho:w.heap.size < w1.heap.size:=by omega
 have Hp:w.heap.size+1 < w1.heap.size:=by omega
 have Hq:w.heap.size+1+1 < w1.heap.size:=by omega
 obtain ⟨z0,z1⟩:=cz2 Hb.b0;obtain ⟨z2,z3,z4,z5⟩:=cz4 Hb.b1;obtain ⟨z6,z7⟩:=cz2 Hb.b2;obtain ⟨z8,z9,zx⟩:=cz3 Hb.b3;have zu:=Hb.b0.frozen;have zv:=Hb.b2.frozen;have zw:=Hb.b3.frozen;go_wp2_with fail
 refine (Hz.out _).mono ?_;rintro e w2 ⟨rfl,h2⟩;have Ha:=Hb.below h2;have Kd:w.heap.size+1+1+1 < w2.heap.size:=Ha.b3.lt;have Hr:w.heap.size < w2.heap.size:=by omega
 have Hs:w.heap.size+1 < w2.heap.size:=by omega
 have Ht:w.heap.size+1+1 < w2.heap.size:=by omega
 obtain ⟨y0,y1⟩:=cz2 Ha.b0;obtain ⟨y2,y3,y4,y5⟩:=cz4 Ha.b1;obtain ⟨y6,y7⟩:=cz2 Ha.b2;obtain ⟨y8,y9,yx⟩:=cz3 Ha.b3;have yu:=Ha.b0.frozen;have yv:=Ha.b2.frozen;have yw:=Ha.b3.frozen;go_wp2_with fail
 refine (zCv _ _ x _ B (HV.out.below Ha.low)).mono ?_;rintro e w3 ⟨⟨nu,su,rfl,hu⟩,h3⟩;obtain ⟨⟨A2,c2,_,rfl,_,_,_,_⟩,_⟩:=hu.is.snaps;have Hd:=hu.now;rw [Hm] at Hd;obtain ⟨g,c,cur,rfl,hg,Hf,Hh⟩:=zCj Hd (by omega);have Hc:=Ha.below h3;have Ke:w.heap.size+1+1+1 < w3.heap.size:=Hc.b3.lt;have Hu:w.heap.size < w3.heap.size:=by omega
 have Hv:w.heap.size+1 < w3.heap.size:=by omega
 have Hw:w.heap.size+1+1 < w3.heap.size:=by omega
 have Kf:=Hf.lt;have Kg:=h3.size;have Kh:=Ha.low.size;obtain ⟨x0,x1⟩:=cz2 Hc.b0;obtain ⟨x2,x3,x4,x5⟩:=cz4 Hc.b1;obtain ⟨x6,x7⟩:=cz2 Hc.b2;obtain ⟨x8,x9,xx⟩:=cz3 Hc.b3;have xu:=Hc.b0.frozen;have xv:=Hc.b2.frozen;have xw:=Hc.b3.frozen;have HU:=mA hu;have Hx:=mA Hc;clear h1 h2 h3 Hb Ha Hc Hd Hh hu Hf;go_upto_region 8 with fail
 obtain ⟨Wd,He⟩:=mJ ((w3.alloc (.cells #[(.slice (some ⟨g,0,none⟩) 6 c),(.slice A2 x.snaps.length c2)] 88)).alloc (.cells #[.int .i64 0,.int .i64 0,.string ⟨#[]⟩] 69));rw [<- He];have Va:Wd.heap.size=w3.heap.size+1+1:=by rw [He];simp
 have Hk:Below w3.heap.size w3 Wd:=by rw [He];exact (zAa w3 _).alloc (by simp) _
 have Hi:Blk Wd w3.heap.size 88 #[(.slice (some ⟨g,0,none⟩) 6 c),(.slice A2 x.snaps.length c2)]:=by rw [He];exact (Blk.new w3 _ _).alloc _
 have Hj:Blk Wd (w3.heap.size+1) 69 #[.int .i64 0,.int .i64 0,.string ⟨#[]⟩]:=by rw [He];exact Blk.new' (by simp)
 have hF:=Hx.out.below Hk;have hO:=HU.out.below Hk;have Hy:=HV.out.below hF.low;clear HU Hx He Hk x0 x1 x2 x3 x4 x5 x6 x7 x8 x9 xx xu xv xw y0 y1 y2 y3 y4 y5 y6 y7 y8 y9 yx yu yv yw z0 z1 z2 z3 z4 z5 z6 z7 z8 z9 zx zu zv zw;obtain ⟨d0,d1⟩:=cz2 hF.b0;obtain ⟨d2,d3,d4,d5⟩:=cz4 hF.b1;obtain ⟨d6,d7⟩:=cz2 hF.b2;obtain ⟨d8,d9,dx⟩:=cz3 hF.b3;have du:=hF.b0.frozen;have dv:=hF.b2.frozen;have dw:=hF.b3.frozen;obtain ⟨v0,v1⟩:=cz2 Hi;obtain ⟨k0,k1,k2⟩:=cz3 Hj;have vz:=Hi.frozen;have kz:=Hj.frozen;have Hd:=hO.now;rw [Hm] at Hd;obtain ⟨g',c',cur,e',_,Hf,Hh⟩:=zCj Hd (by omega);obtain ⟨rfl,rfl⟩:g=g'/\c=c':=by cases e';exact ⟨rfl,rfl⟩
 have Vb:=Hf.frozen;have Vc:Wd.cell? ⟨g,an,none⟩=some (.string (x.now[an]'(by omega))):=by rw [Hh an (by omega),List.getElem?_map,mH (by omega)];rfl
 have Vd:(an:Int) < 6:=by omega
 have Ve:g < Wd.heap.size:=by omega
 have Vf:w3.heap.size < Wd.heap.size:=by omega
 have Vg:w3.heap.size+1 < Wd.heap.size:=by omega
 have Vh:g≠w.heap.size:=by omega
 have Vi:g≠w.heap.size+1:=by omega
 have Vj:g≠w.heap.size+1+1:=by omega
 have Vk:g≠w.heap.size+1+1+1:=by omega
 have Vl:g≠w3.heap.size:=by omega
 have Vm:g≠w3.heap.size+1:=by omega
 have Vn:w3.heap.size≠w.heap.size:=by omega
 have Vo:w3.heap.size≠w.heap.size+1:=by omega
 have Vp:w3.heap.size≠w.heap.size+1+1:=by omega
 have Vq:w3.heap.size≠w.heap.size+1+1+1:=by omega
 have Vr:w3.heap.size+1≠w.heap.size:=by omega
 have Vs:w3.heap.size+1≠w.heap.size+1:=by omega
 have Ki:w3.heap.size+1≠w.heap.size+1+1:=by omega
 have Kj:w3.heap.size+1≠w.heap.size+1+1+1:=by omega
 have Vt:w.heap.size < Wd.heap.size:=by omega
 have Vu:w.heap.size+1 < Wd.heap.size:=by omega
 have Vv:w.heap.size+1+1 < Wd.heap.size:=by omega
 have Vw:w.heap.size+1+1+1 < Wd.heap.size:=by omega
 have Hg:w.heap.size<=w2.heap.size:=by omega
 have HO:=mA hO;have HF:=mA hF;have Vx:=mA Hy;have Vy:=mA Hi;have Kk:=mA Hj;clear hO hF Hy Hi Hj Hd Hf Hh e';go_wp2_with fail
 have Kl:=HO.out.set_ (i:=0) Kk.out (by decide) (by decide) (.int .i64 7);have Km:=HF.out.b2.far (p:=⟨w3.heap.size+1,0,none⟩) (fun e=>Ki e.symm) (.int .i64 7);have Kn:=HF.out.b3.far (p:=⟨w3.heap.size+1,0,none⟩) (fun e=>Kj e.symm) (.int .i64 7);have Ko:=HF.out.low.setCell (p:=⟨w3.heap.size+1,0,none⟩) (by show w.heap.size<=w3.heap.size+1;omega) (.int .i64 7);go_region
 rename_i hK
 refine hK _ _ (Go.wp_ret ?_);obtain ⟨Kp,Kq,Kr⟩:=zEc Km Kn (by omega) (.slice (some ⟨g,0,none⟩) 6 c) (.slice A2 x.snaps.length c2) (.int .i64 7) (.int .i64 0) (.string ⟨#[]⟩);have Ks:=Kp.drew;have Kt:=Kq.drew;obtain ⟨r0,r1⟩:=cz2 Ks;obtain ⟨r2,r3,r4⟩:=cz3 Kt;refine bodyPost_ret (v:=.tuple #[.agg #[(.slice (some ⟨g,0,none⟩) 6 c),(.slice A2 x.snaps.length c2)],.agg #[.int .i64 7,.int .i64 0,.string ⟨#[]⟩],.int .i64 0]) (by simp [results,Tryz.results97,go_sem,r0,r1,r2,r3,r4]) rfl ?_;exact zN5
theorem zVj (A0:Option Addr) (n0 c0:Nat) (A1:Option Addr) (n1 c1:Nat) (x:Scu.Volume) (d:Scu.Str) (w:World) (B:Nat) (hv:IsVolume w B (.slice A0 n0 c0) (.slice A1 n1 c1) x)
 (hf:¬ Scu.volFault x≠0) (ho:¬ Scu.opFault ⟨4,0,0,d⟩≠0) (h3:x.snaps.length < 3) :
 Calls Tryz.prog 97 #[.agg #[.slice A0 n0 c0,.slice A1 n1 c1],.agg #[.int .i64 4,.int .i64 0,.int .i64 0,.string d]] w fun e w'=>DidRet w' w.heap.size ((⟨x.now,x.snaps ++ [x.now]⟩:Scu.Volume),(⟨0,(x.snaps.length:Int)+1,Scu.str0⟩:Scu.Reply),0) e/\Below w.heap.size w w':=by
 have HV:=mA hv;have Gj:(Scu.volFault x != 0)=false:=by simpa using hf
 have Gk:(Scu.volFault x == 0)=true:=by simpa using hf
 have Kb:=Decidable.not_not.1 ho;have Kz:=mA (fun W=>zDu _ W Kb);obtain ⟨Hk,Gl,Va,Kc⟩:=zAu hf;have Gm:=mA Kc;clear hv hf ho Kb Va Kc;have Gn:¬ (3:Int)<=(x.snaps.length:Int):=by omega
 have Vb:(x.snaps.length:Int) < 3:=by omega
 obtain ⟨an,Vc⟩:=mJ (0);have Gp:an < 6:=by omega
 go_enter Tryz.func97,Tryz.ntmps97
 go_wp2_with fail
 refine (zBg _ _ x _ B ((((HV.out.alloc _).alloc _).alloc _).alloc _)).mono ?_;rintro e w1 ⟨rfl,h1⟩;have Hc:=(Four.start w _ _ _ _ _ _ _ _ _ _).below h1;have Vd:w.heap.size+1+1+1 < w1.heap.size:=Hc.b3.lt;have Kd:w.heap.size < w1.heap.size:=by omega
 have Ke:w.heap.size+1 < w1.heap.size:=by omega
 have Kf:w.heap.size+1+1 < w1.heap.size:=by omega
 obtain ⟨z0,z1⟩:=cz2 Hc.b0;obtain ⟨z2,z3,z4,z5⟩:=cz4 Hc.b1;obtain ⟨z6,z7⟩:=cz2 Hc.b2;obtain ⟨z8,z9,zx⟩:=cz3 Hc.b3;have zu:=Hc.b0.frozen;have zv:=Hc.b2.frozen;have zw:=Hc.b3.frozen;go_wp2_with fail
 refine (Kz.out _).mono ?_;rintro e w2 ⟨rfl,h2⟩;have Hb:=Hc.below h2;have Ve:w.heap.size+1+1+1 < w2.heap.size:=Hb.b3.lt;have Kg:w.heap.size < w2.heap.size:=by omega
 have Kh:w.heap.size+1 < w2.heap.size:=by omega
 have Ki:w.heap.size+1+1 < w2.heap.size:=by omega
 obtain ⟨y0,y1⟩:=cz2 Hb.b0;obtain ⟨y2,y3,y4,y5⟩:=cz4 Hb.b1;obtain ⟨y6,y7⟩:=cz2 Hb.b2;obtain ⟨y8,y9,yx⟩:=cz3 Hb.b3;have yu:=Hb.b0.frozen;have yv:=Hb.b2.frozen;have yw:=Hb.b3.frozen;go_wp2_with fail
 refine (zCv _ _ x _ B (HV.out.below Hb.low)).mono ?_;rintro e w3 ⟨⟨nu,su,rfl,hu⟩,h3⟩;obtain ⟨⟨A2,c2,_,rfl,_,_,_,_⟩,_⟩:=hu.is.snaps;have Hg:=hu.now;rw [Hk] at Hg;obtain ⟨g,c,cur,rfl,hg,Ho,Ht⟩:=zCj Hg (by omega);have Hd:=Hb.below h3;have Vf:w.heap.size+1+1+1 < w3.heap.size:=Hd.b3.lt;have Kj:w.heap.size < w3.heap.size:=by omega
 have Kk:w.heap.size+1 < w3.heap.size:=by omega
 have Kl:w.heap.size+1+1 < w3.heap.size:=by omega
 have Vg:=Ho.lt;have Vh:=h3.size;have Vi:=Hb.low.size;obtain ⟨x0,x1⟩:=cz2 Hd.b0;obtain ⟨x2,x3,x4,x5⟩:=cz4 Hd.b1;obtain ⟨x6,x7⟩:=cz2 Hd.b2;obtain ⟨x8,x9,xx⟩:=cz3 Hd.b3;have xu:=Hd.b0.frozen;have xv:=Hd.b2.frozen;have xw:=Hd.b3.frozen;have HU:=mA hu;have Km:=mA Hd;clear h1 h2 h3 Hc Hb Hd Hg Ht hu Ho;go_upto_region 8 with fail
 obtain ⟨Wd,Hl⟩:=mJ ((w3.alloc (.cells #[(.slice (some ⟨g,0,none⟩) 6 c),(.slice A2 x.snaps.length c2)] 88)).alloc (.cells #[.int .i64 0,.int .i64 0,.string ⟨#[]⟩] 69));rw [<- Hl];have Gq:Wd.heap.size=w3.heap.size+1+1:=by rw [Hl];simp
 have Hx:Below w3.heap.size w3 Wd:=by rw [Hl];exact (zAa w3 _).alloc (by simp) _
 have Hu:Blk Wd w3.heap.size 88 #[(.slice (some ⟨g,0,none⟩) 6 c),(.slice A2 x.snaps.length c2)]:=by rw [Hl];exact (Blk.new w3 _ _).alloc _
 have Hv:Blk Wd (w3.heap.size+1) 69 #[.int .i64 0,.int .i64 0,.string ⟨#[]⟩]:=by rw [Hl];exact Blk.new' (by simp)
 have hF:=Km.out.below Hx;have hO:=HU.out.below Hx;have Kn:=HV.out.below hF.low;clear HU Km Hl Hx x0 x1 x2 x3 x4 x5 x6 x7 x8 x9 xx xu xv xw y0 y1 y2 y3 y4 y5 y6 y7 y8 y9 yx yu yv yw z0 z1 z2 z3 z4 z5 z6 z7 z8 z9 zx zu zv zw;obtain ⟨d0,d1⟩:=cz2 hF.b0;obtain ⟨d2,d3,d4,d5⟩:=cz4 hF.b1;obtain ⟨d6,d7⟩:=cz2 hF.b2;obtain ⟨d8,d9,dx⟩:=cz3 hF.b3;have du:=hF.b0.frozen;have dv:=hF.b2.frozen;have dw:=hF.b3.frozen;obtain ⟨v0,v1⟩:=cz2 Hu;obtain ⟨k0,k1,k2⟩:=cz3 Hv;have vz:=Hu.frozen;have kz:=Hv.frozen;have Hg:=hO.now;rw [Hk] at Hg;obtain ⟨g',c',cur,e',_,Ho,Ht⟩:=zCj Hg (by omega);obtain ⟨rfl,rfl⟩:g=g'/\c=c':=by cases e';exact ⟨rfl,rfl⟩
 have Gr:=Ho.frozen;have Gs:Wd.cell? ⟨g,an,none⟩=some (.string (x.now[an]'(by omega))):=by rw [Ht an (by omega),List.getElem?_map,mH (by omega)];rfl
 have Gt:(an:Int) < 6:=by omega
 have Gu:g < Wd.heap.size:=by omega
 have Hw:w3.heap.size < Wd.heap.size:=by omega
 have Gv:w3.heap.size+1 < Wd.heap.size:=by omega
 have Ko:g≠w.heap.size:=by omega
 have Vj:g≠w.heap.size+1:=by omega
 have Gw:g≠w.heap.size+1+1:=by omega
 have Hy:g≠w.heap.size+1+1+1:=by omega
 have Gx:g≠w3.heap.size:=by omega
 have Hh:g≠w3.heap.size+1:=by omega
 have Gy:w3.heap.size≠w.heap.size:=by omega
 have Gz:w3.heap.size≠w.heap.size+1:=by omega
 have Vk:w3.heap.size≠w.heap.size+1+1:=by omega
 have Vl:w3.heap.size≠w.heap.size+1+1+1:=by omega
 have Na:w3.heap.size+1≠w.heap.size:=by omega
 have Nb:w3.heap.size+1≠w.heap.size+1:=by omega
 have Vm:w3.heap.size+1≠w.heap.size+1+1:=by omega
 have Vn:w3.heap.size+1≠w.heap.size+1+1+1:=by omega
 have Nc:w.heap.size < Wd.heap.size:=by omega
 have Nd:w.heap.size+1 < Wd.heap.size:=by omega
 have Ne:w.heap.size+1+1 < Wd.heap.size:=by omega
 have Nf:w.heap.size+1+1+1 < Wd.heap.size:=by omega
 have He:w.heap.size<=w2.heap.size:=by omega
 have HO:=mA hO;have HF:=mA hF;have Kp:=mA Kn;have Vo:=mA Hu;have Vp:=mA Hv;clear hO hF Kn Hu Hv Hg Ho Ht e';obtain ⟨⟨AN,cN,eN,Ng,Kq⟩,Vq,Kr⟩:=Kp.out.now;obtain ⟨rfl,rfl,rfl⟩:A0=AN/\n0=x.now.length/\c0=cN:=by cases eN;exact ⟨rfl,rfl,rfl⟩
 obtain ⟨rfl⟩:n1=x.snaps.length:=by
  obtain ⟨⟨_,_,_,e,_⟩,_⟩:=Kp.out.snaps;cases e
  rfl
 obtain ⟨vs,bb,Hp,Hf,Ks,Kt⟩:=HO.out.snaps;have Ku:=mA Kq;have Hi:=mA Hp;have HE:=mA Hf;have Kv:=mA (mB Ks Kt);unfold R47 at Vq;have Nh:=mA Kr;clear Kq Hp Hf Ks Kt Kr eN;go_wp2_with fail
 go_region_law (first
  | (refine zBq _ rfl (.const (.slice none 0 0)) (.tmp 34) 39 rfl zBl Wd.heap.size _ 0 [] rfl (World.ownsRow_nil _ _ _ _) _ 6 (x.now.map Value.string) rfl ?_ (zBf _) ?_ ?_ ?_ ?_
     ·exact zAq (Ku.out.drewN 1) (by simp [Hk]) (fun e=>by subst e;have h9:=zBi Ku.out;simp at h9;rw [h9] at Hk;simp at Hk)
     ·unfold maxLen;omega
     ·omega
     ·exact mC _
     intro u3 w4 Hq Hy _;have h4:Below Wd.heap.size Wd w4:=(mG Wd.heap.size Wd).drew.trans (zAk Hy (mC _) (fun q hq=>by cases hq));have Hq:w4.ownsRow Wd.heap.size 9 1 u3 6 (x.now.map Value.string):=(by simpa only [Nat.zero_add,List.nil_append] using Hq);obtain ⟨A3,c3,rfl,_,_,_,Hr⟩:=zAi Hq;have Vr:=mA Hq;have Hz:=mA Hr;clear Hq Hy Hr;have f0:=(((bcell h4).1 w3.heap.size 0 Hw).trans v0);have f1:=(((bcell h4).1 w3.heap.size 1 Hw).trans v1);have fz:=(((bcell h4).2 w3.heap.size 1 Hw).trans (vz 1));have Vs:=h4.size;have f1a:∀ o,(w4.alloc o).cell? ⟨w3.heap.size,1,none⟩=some (.slice A2 x.snaps.length c2):=fun o=>(((zAa w4 o).cell (p:=⟨w3.heap.size,1,none⟩) (mF Hw h4.size)).trans f1))
  | (refine zBq _ rfl (.tmp 32) (.tmp 36) 24 rfl zHp w2.heap.size (.slice A2 x.snaps.length c2) x.snaps.length vs rfl ((zAg Hi.out h4).alloc _) (.slice (some ⟨w4.heap.size,0,none⟩) 1 1) 1 [.slice A3 6 c3] rfl ⟨rfl,.inr ⟨_,_,rfl,?_⟩⟩ ?_ ?_ ?_ ?_ ?_
     ·intro j v hj;have Vt:j=0:=by (rcases j with _ | j <;> simp at hj ⊢)
      subst Vt;simp at hj
      subst hj;exact (Blk.new w4 _ _).cell 0
     ·(intro v hv;rw [List.mem_singleton] at hv;subst hv;rfl)
     ·(unfold maxLen;omega)
     ·omega
     ·(simp;have:=Vs;omega)
     intro v5 w5 h5 Hh _;have Ha:=(zAg Hi.out h4).alloc (.cells #[.slice A3 6 c3] 39);have Hm:=zFa ((Vo.out.same h4).alloc (.cells #[.slice A3 6 c3] 39)) Ha (by decide) Hh;have e0:=Hm.cell 0;have e1:=Hm.cell 1;have Hj:=zFa ((Vp.out.same h4).alloc (.cells #[.slice A3 6 c3] 39)) Ha (by decide) Hh;have g0:=Hj.cell 0;have g1:=Hj.cell 1;have g2:=Hj.cell 2;have Hs:=zFa ((HF.out.b2.same h4).alloc (.cells #[.slice A3 6 c3] 39)) Ha (by decide) Hh;have Hn:=zFa ((HF.out.b3.same h4).alloc (.cells #[.slice A3 6 c3] 39)) Ha (by decide) Hh;have p0:=Hs.cell 0;have p1:=Hs.cell 1;have s0:=Hn.cell 0;have s1:=Hn.cell 1;have s2:=Hn.cell 2;simp only [List.getElem?_toArray,List.getElem?_cons_zero,List.getElem?_cons_succ] at e0 e1 g0 g1 g2 p0 p1 s0 s1 s2
     have ez:=Hm.frozen;have gz:=Hj.frozen;have pz:=Hs.frozen;have sz:=Hn.frozen;have Kw:=mA (mB Hs Hn);have Vu:=mA Hj;have Ni:w3.heap.size < w5.heap.size:=Hm.lt;have Nj:w3.heap.size+1 < w5.heap.size:=Hj.lt;obtain ⟨A5,c5,rfl,_,_,_,_⟩:=zAi h5;have Ka:=mA (mB h5 Hh);have Vv:=mA Hm;clear h5 Hh Hm Hj Hs Hn Ha))
 all_goals
  go_wp2_with fail
  go_region
  rename_i hK
  refine hK _ _ (Go.wp_ret ?_);have Vw:=zAg (zAg HO.out.now h4) (zAa w4 (.cells #[.slice A3 6 c3] 39));have Kx:=zAg (zAg Hi.out h4) (zAa w4 (.cells #[.slice A3 6 c3] 39));have Vx:=OwnVol.push (x:=x) (y:=x.now) (u:=.slice A3 6 c3) Vw HO.out.nowLen HO.out.nowEach Kx (fun j u y a b=>((HE.out j u y a b).below h4).alloc _) Kv.out.1 Kv.out.2 ((zCn (by rw [Hk];exact Vr.out) HO.out.nowLen HO.out.nowEach).alloc (.cells #[.slice A3 6 c3] 39))
   (fun g0 Ko g' Vy=>by
    have h1:Wd.heap.size<=g':=(Hz.out g' Vy).1;have Vj:g=g0:=by simpa [Value.ownBlock] using Ko
    omega) (by unfold R47;omega) Ka.out.2 Ka.out.1
  have Vz:=(Vx.set_ (i:=1) Vv.out (by decide) (by decide) (.slice A5 (x.snaps.length+1) c5)).set_ (i:=1) (Vu.out.far (p:=⟨w3.heap.size,1,none⟩) (by simp) (.slice A5 (x.snaps.length+1) c5)) (by decide) (by decide) (.int .i64 ((x.snaps.length:Int)+1));have Ga:=(Kw.out.1.far (p:=⟨w3.heap.size,1,none⟩) (fun e=>Vk e.symm) (.slice A5 (x.snaps.length+1) c5)).far (p:=⟨w3.heap.size+1,1,none⟩) (fun e=>Vm e.symm) (.int .i64 ((x.snaps.length:Int)+1));have Gb:=(Kw.out.2.far (p:=⟨w3.heap.size,1,none⟩) (fun e=>Vl e.symm) (.slice A5 (x.snaps.length+1) c5)).far (p:=⟨w3.heap.size+1,1,none⟩) (fun e=>Vn e.symm) (.int .i64 ((x.snaps.length:Int)+1));have Ky:=(HF.out.low.trans (h4.mono HF.out.low.size)).alloc (by have:=HF.out.low.size;have:=h4.size;omega) (.cells #[.slice A3 6 c3] 39);have Gc:=Ky.grown Ka.out.2 Ky.size (fun q hq=>mD He (Kx.lt q hq).1);have Gd:=(Gc.setCell (p:=⟨w3.heap.size,1,none⟩) (by show w.heap.size<=w3.heap.size;omega) (.slice A5 (x.snaps.length+1) c5)).setCell (p:=⟨w3.heap.size+1,1,none⟩) (by show w.heap.size<=w3.heap.size+1;omega) (.int .i64 ((x.snaps.length:Int)+1));obtain ⟨Ge,Gf,Gg⟩:=zEc Ga Gb (by omega) (.slice (some ⟨g,0,none⟩) 6 c) (.slice A5 (x.snaps.length+1) c5) (.int .i64 0) (.int .i64 ((x.snaps.length:Int)+1)) (.string ⟨#[]⟩);have Gh:=Ge.drew;have Gi:=Gf.drew;obtain ⟨r0,r1⟩:=cz2 Gh;obtain ⟨r2,r3,r4⟩:=cz3 Gi;refine bodyPost_ret (v:=.tuple #[.agg #[(.slice (some ⟨g,0,none⟩) 6 c),.slice A5 (x.snaps.length+1) c5],.agg #[.int .i64 0,.int .i64 ((x.snaps.length:Int)+1),.string ⟨#[]⟩],.int .i64 0]) (by simp [results,Tryz.results97,go_sem,r0,r1,r2,r3,r4]) rfl ?_;exact ⟨⟨_,_,rfl,((Vz.base_ He).same Gg).below (mG _ _).drew⟩,(zBr Gd (by omega) (by omega) _ _ _ _ _).drew⟩
end Go.Proofs.YtlngfbngnnepiaaGreat
