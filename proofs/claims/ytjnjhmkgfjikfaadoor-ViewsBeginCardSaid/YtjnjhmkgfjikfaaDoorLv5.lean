/- Part 5: words and walks under the laws of the whole. -/
import Derived.Test.YtjnjhmkgfjikfaaDoorLv3
import Derived.Test.YtjnjhmkgfjikfaaDoorLv4
set_option linter.unusedVariables false
set_option linter.unusedSimpArgs false
set_option maxHeartbeats 4000000
set_option maxRecDepth 100000
namespace Go.Proofs.YtjnjhmkgfjikfaaDoor
open Go.RowKit
attribute [local go_sem] zCu zDm zCg
theorem zHx (n:Int) (w:World) (h0:0<=n) (h1:n<=1073741824) :
 Calls Tryd.prog 33 #[.int .i64 n] w fun e w'=>e=.returned (.tuple #[.string (Scu.numBytes n),.int .i64 0])/\Below w.heap.size w w':=by
 have:=zJg n w
 rw [show Scu.number n=(Scu.numBytes n,0) from if_neg (by omega)] at this
 exact this
theorem zLj (s:ByteArray) (w:World) (h:s.size<=255) :
 Calls Tryd.prog 34 #[.string s] w fun e w'=>e=.returned (.tuple #[.string (Scu.textBytes s),.int .i64 0])/\Below w.heap.size w w':=by
 have:=zMn s w
 rw [show Scu.text s=(Scu.textBytes s,0) from if_neg (by omega)] at this
 exact this
theorem zLk (a b c d:Int) (a0:0<=a) (a1:a < 256) (b0:0<=b) (b1:b < 256) (c0:0<=c) (c1:c < 256) (d0:0<=d) (d1:d < 256) :
 strOfNums [a,b,c,d]=⟨#[Scu.b8 a,Scu.b8 b,Scu.b8 c,Scu.b8 d]⟩:=by
 unfold strOfNums
 simp only [List.map_cons,List.map_nil]
 rw [zEj a0 a1,zEj b0 b1,zEj c0 c1,zEj d0 d1]
theorem zJi (r:Scu.Request) (w:World) :
 Calls Tryd.prog 20 #[.agg #[.int .i64 r.client,.int .i64 r.num,.int .i64 r.op.kind,.int .i64 r.op.at_,.int .i64 r.op.snap,.string r.op.data]] w fun e w' =>
  e=.returned (.tuple #[.string (Scu.encode r).1,.int .i64 (Scu.encode r).2])/\Below w.heap.size w w':=by
 by_cases hf:Scu.reqFault r=0
 ·have hs:Scu.encode r=(Scu.reqBytes r,0):=if_neg (by simp [hf])
  rw [hs]
  obtain ⟨h1,h2,h3,h4,h5⟩:=Scu.reqFault_ok hf
  obtain ⟨o1,o2,o3,o4,o5,o6,o7,_,_,_⟩:=Scu.opFault_ok h5
  have e1:=zLk r.client r.op.kind r.op.at_ r.op.snap (by omega) (by omega) (by omega) (by omega) (by omega) (by omega) (by omega) (by omega)
  have z1:(strOfNums [r.client,r.op.kind,r.op.at_,r.op.snap]).size=4:=by rw [e1];rfl
  have z2:=Scu.numBytes_size r.num
  have z3:=Scu.textBytes_size r.op.data
  have a1:=fun w=>run_string_add_sum (P:=Tryd.prog) (w:=w) (strOfNums [r.client,r.op.kind,r.op.at_,r.op.snap]) (Scu.numBytes r.num) (by omega)
  have a2:=fun w=>run_string_add_sum (P:=Tryd.prog) (w:=w) (strOfNums [r.client,r.op.kind,r.op.at_,r.op.snap] ++ Scu.numBytes r.num) (Scu.textBytes r.op.data) (by rw [ByteArray.size_append];omega)
  have Ha:strOfNums [r.client,r.op.kind,r.op.at_,r.op.snap] ++ Scu.numBytes r.num ++ Scu.textBytes r.op.data=Scu.reqBytes r:=by rw [e1];rfl
  have Hb:=mA Ha
  have Hd:=mA h5
  have Hc:r.op.data.size<=255:=by omega
  clear hs e1 z1 z2 z3 Ha h5
  go_enter Tryd.func20,Tryd.ntmps20
  go_wp2_with fail
  refine (zBq _ _).mono ?_;rintro e w1 ⟨rfl,b1⟩
  obtain ⟨hc,hz⟩:=bcell b1
  go_wp2_with fail
  refine (zHx _ _ (by omega) (by omega)).mono ?_;rintro e w2 ⟨rfl,b2⟩
  have c2:=b1.trans (b2.mono b1.size)
  clear hc hz
  obtain ⟨hc,hz⟩:=bcell c2
  go_wp2_with fail
  refine (zLj _ _ Hc).mono ?_;rintro e w3 ⟨rfl,b3⟩
  have c3:=c2.trans (b3.mono c2.size)
  clear hc hz
  obtain ⟨hc,hz⟩:=bcell c3
  go_wp2
  go_ret2
  exact ⟨zEx (zHo Hb.out) rfl,(zDx c3).alloc (zDx c3).size _⟩
 have hs:Scu.encode r=(Scu.str0,Scu.reqFault r):=if_pos hf
 rw [hs]
 have hb:(Scu.reqFault r != 0)=true:=by simpa using hf
 clear hf hs
 go_enter Tryd.func20,Tryd.ntmps20
 go_wp2_with fail
 refine (zBq _ _).mono ?_;rintro e w1 ⟨rfl,b1⟩
 go_wp2_with fail
 go_ret2
 exact ⟨rfl,zDx b1⟩
theorem zDz (s:Scu.Str):(Scu.readNumber s).2.1.size<=s.size:=by
 unfold Scu.readNumber
 split
 ·exact mE _
 split
 ·exact mE _
 show (Scu.dropS s 4).size<=s.size
 unfold Scu.dropS
 rw [ByteArray.size_extract]
 omega
theorem zBs {B g:Nat} {w w1:World} {a b c d e f:Value} (h:Below B w w1) (hg:B<=g) :
 Below B w ((((((w1.setCell ⟨g,0,none⟩ a).setCell ⟨g,1,none⟩ b).setCell ⟨g,2,none⟩ c).setCell ⟨g,3,none⟩ d).setCell ⟨g,4,none⟩ e).setCell ⟨g,5,none⟩ f) :=
 (((((h.setCell (p:=⟨g,0,none⟩) hg _).setCell (p:=⟨g,1,none⟩) hg _).setCell (p:=⟨g,2,none⟩) hg _).setCell (p:=⟨g,3,none⟩) hg _).setCell (p:=⟨g,4,none⟩) hg _).setCell (p:=⟨g,5,none⟩) hg _
theorem zJj (s:ByteArray) (w:World) :
 Calls Tryd.prog 30 #[.string s] w fun e w' =>
  e=.returned (.tuple #[vRequest (Scu.decode s).1,.int .i64 (Scu.decode s).2])/\Below w.heap.size w w':=by
 by_cases Hc:40 < s.size
 ·have hs:Scu.decode s=(Scu.req0,1):=if_pos Hc
  rw [hs]
  have h':(40:Int) < s.size:=by omega
  clear hs Hc
  go_enter Tryd.func30,Tryd.ntmps30
  go_wp2
  go_returns
  exact ⟨rfl,(mG _ _).alloc (mC _) _⟩
 by_cases h4:s.size < 4
 ·have hs:Scu.decode s=(Scu.req0,5):=by unfold Scu.decode;rw [if_neg Hc,if_pos h4]
  rw [hs]
  have h':(s.size:Int) < 4:=by omega
  clear hs Hc h4
  go_enter Tryd.func30,Tryd.ntmps30
  go_wp2
  go_returns
  exact ⟨rfl,(mG _ _).alloc (mC _) _⟩
 have g40:(s.size:Int)<=40:=by omega
 have g4:(4:Int)<=s.size:=by omega
 have g0:(0:Int) < s.size:=by omega
 have g1:(1:Int) < s.size:=by omega
 have g2:(2:Int) < s.size:=by omega
 have g3:(3:Int) < s.size:=by omega
 obtain ⟨a0,a1⟩:=zAt s 0
 obtain ⟨b0,b1⟩:=zAt s 1
 obtain ⟨c0,c1⟩:=zAt s 2
 obtain ⟨d0,d1⟩:=zAt s 3
 generalize Hg:Scu.readNumber (Scu.dropS s 4)=q1
 obtain ⟨n,s1,e1⟩:=q1
 generalize Hj:Scu.readText s1=q2
 obtain ⟨d,s2,e2⟩:=q2
 have Hl:Scu.decode s=if e1≠0 then (Scu.req0,e1) else if e2≠0 then (Scu.req0,e2) else
  if s2≠Scu.str0 then (Scu.req0,4) else if Scu.reqFault ⟨Scu.byteAt s 0,n,⟨Scu.byteAt s 1,Scu.byteAt s 2,Scu.byteAt s 3,d⟩⟩≠0 then
   (Scu.req0,Scu.reqFault ⟨Scu.byteAt s 0,n,⟨Scu.byteAt s 1,Scu.byteAt s 2,Scu.byteAt s 3,d⟩⟩) else (⟨Scu.byteAt s 0,n,⟨Scu.byteAt s 1,Scu.byteAt s 2,Scu.byteAt s 3,d⟩⟩,0):=by
  unfold Scu.decode;rw [if_neg Hc,if_neg h4];simp only [Hg,Hj]
 have Hm:s1.size<=maxLen:=by
  have h1:=zDz (Scu.dropS s 4)
  rw [Hg] at h1
  have h2:(Scu.dropS s 4).size<=s.size:=by unfold Scu.dropS;rw [ByteArray.size_extract];omega
  unfold maxLen
  simp only at h1
  omega
 have k1:∀ w,Calls Tryd.prog 43 #[.string (s.extract 4 s.size)] w fun e w'=>e=.returned (.tuple #[.int .i64 n,.string s1,.int .i64 e1])/\Below w.heap.size w w':=fun w=>by
  have:=zFk (s.extract 4 s.size) w
  rw [show Scu.readNumber (s.extract 4 s.size)=(n,s1,e1) from Hg] at this
  exact this
 have k2:∀ w,Calls Tryd.prog 44 #[.string s1] w fun e w'=>e=.returned (.tuple #[.string d,.string s2,.int .i64 e2])/\Below w.heap.size w w':=fun w=>by
  have:=zHf s1 w Hm
  rw [Hj] at this
  exact this
 have K1:=mA k1
 have K2:=mA k2
 have HD:=mA Hl
 have Hn:=mA (zBg s2)
 clear Hl Hc h4 Hg Hj k1 k2 Hm
 go_enter Tryd.func30,Tryd.ntmps30
 go_wp2_with fail
 go_region
 go_wp2_with fail
 refine (K1.out _).mono ?_;rintro e w1 ⟨rfl,h1⟩
 obtain ⟨hc,hz⟩:=bcell h1
 have Hz:w.heap.size+1 < w1.heap.size:=by have:=h1.size;simp at this;omega
 have Ht:w.heap.size < w1.heap.size:=by omega
 have Ho:Below w.heap.size w w1:=(((mG _ _).alloc (mC _) _).alloc (by simp) _).drew.trans (h1.mono (by simp;omega))
 by_cases Hh:e1=0
 ·subst Hh
  go_wp2_with fail
  refine (K2.out _).mono ?_;rintro e w2 ⟨rfl,h2⟩
  obtain ⟨Ka,Kb⟩:=bcell h2
  have Hu:w.heap.size+1 < w2.heap.size:=by have:=h2.size;simp at this;omega
  have Hp:w.heap.size < w2.heap.size:=by omega
  have Hk:Below w.heap.size w w2:=(Ho.setCell (by simp) _).trans (h2.mono (by simp;omega))
  have Ha:=((((((Blk.new w 56 #[.int .i64 0,.int .i64 0,.int .i64 0,.int .i64 0,.int .i64 0,.string ⟨#[]⟩]).alloc (.cells #[.int .i64 (Scu.byteAt s 0),.int .i64 0,.int .i64 (Scu.byteAt s 1),.int .i64 (Scu.byteAt s 2),.int .i64 (Scu.byteAt s 3),.string ⟨#[]⟩] 56)).drew).same h1).far (p:=⟨w.heap.size+1,1,none⟩) (by simp) (.int .i64 n)).same h2)
  obtain ⟨u0,u1,u2,u3,u4,u5⟩:=cz6 Ha
  have Hv:=mA Ha
  clear Ha
  by_cases Hi:e2=0
  ·subst Hi
   by_cases Hd:s2=Scu.str0
   ·have He:s2.toList=[]:=Hn.out.2 (by rw [Hd];rfl)
    have Hq:=mA Hd
    clear Hd
    go_wp2_with fail
    refine (zBq ⟨Scu.byteAt s 0,n,⟨Scu.byteAt s 1,Scu.byteAt s 2,Scu.byteAt s 3,d⟩⟩ _).mono ?_;rintro e w3 ⟨rfl,h3⟩
    obtain ⟨Kc,Kd⟩:=bcell h3
    have Hw:w.heap.size+1 < w3.heap.size:=by have:=h3.size;simp at this;omega
    have Hr:w.heap.size < w3.heap.size:=by omega
    have Hs:Below w.heap.size w w3:=(Hk.setCell (by simp) _).trans (h3.mono (by simp;omega))
    have Hb:=(Hv.out.far (p:=⟨w.heap.size+1,5,none⟩) (by simp) (.string d)).same h3
    obtain ⟨y0,y1,y2,y3,y4,y5⟩:=cz6 Hb
    have Ke:=mA Hb
    clear Hb
    by_cases hf:Scu.reqFault ⟨Scu.byteAt s 0,n,⟨Scu.byteAt s 1,Scu.byteAt s 2,Scu.byteAt s 3,d⟩⟩=0
    ·have hr:Scu.decode s=(⟨Scu.byteAt s 0,n,⟨Scu.byteAt s 1,Scu.byteAt s 2,Scu.byteAt s 3,d⟩⟩,0):=by
      rw [HD.out,if_neg (by simp),if_neg (by simp),if_neg (by simp [Hq.out]),if_neg (by simp [hf])]
     have HR:=mA hr
     have Hx:(Scu.reqFault ⟨Scu.byteAt s 0,n,⟨Scu.byteAt s 1,Scu.byteAt s 2,Scu.byteAt s 3,d⟩⟩ != 0)=false:=by simpa using hf
     clear hr hf
     go_wp2
     refine bodyPost_ret (v:=.tuple #[.agg #[.int .i64 (Scu.byteAt s 0),.int .i64 n,.int .i64 (Scu.byteAt s 1),.int .i64 (Scu.byteAt s 2),.int .i64 (Scu.byteAt s 3),.string d],.int .i64 0]) (by simp [results,Tryd.results30,go_sem,y0,y1,y2,y3,y4,y5]) rfl ?_
     exact ⟨by rw [HR.out];rfl,zBs Hs (mC _)⟩
    have hr:Scu.decode s=(Scu.req0,Scu.reqFault ⟨Scu.byteAt s 0,n,⟨Scu.byteAt s 1,Scu.byteAt s 2,Scu.byteAt s 3,d⟩⟩):=by
     rw [HD.out,if_neg (by simp),if_neg (by simp),if_neg (by simp [Hq.out]),if_pos hf]
    have HR:=mA hr
    have Hx:(Scu.reqFault ⟨Scu.byteAt s 0,n,⟨Scu.byteAt s 1,Scu.byteAt s 2,Scu.byteAt s 3,d⟩⟩ != 0)=true:=by simpa using hf
    clear hr hf
    go_wp2
    refine bodyPost_ret (v:=.tuple #[.agg #[.int .i64 0,.int .i64 0,.int .i64 0,.int .i64 0,.int .i64 0,.string ⟨#[]⟩],.int .i64 (Scu.reqFault ⟨Scu.byteAt s 0,n,⟨Scu.byteAt s 1,Scu.byteAt s 2,Scu.byteAt s 3,d⟩⟩)]) (by simp [results,Tryd.results30,go_sem,y0,y1,y2,y3,y4,y5]) rfl ?_
    exact ⟨by rw [HR.out];rfl,zBs Hs (mC _)⟩
   have He:¬ s2.toList=[]:=fun e=>Hd ((Scu.size_zero_iff _).1 (Hn.out.1 e))
   have Hy:s2.toList.isEmpty=false:=by simpa using He
   have hr:Scu.decode s=(Scu.req0,4):=by rw [HD.out,if_neg (by simp),if_neg (by simp),if_pos Hd]
   have HR:=mA hr
   clear hr Hd
   go_wp2
   refine bodyPost_ret (v:=.tuple #[.agg #[.int .i64 0,.int .i64 0,.int .i64 0,.int .i64 0,.int .i64 0,.string ⟨#[]⟩],.int .i64 4]) (by simp [results,Tryd.results30,go_sem,u0,u1,u2,u3,u4,u5]) rfl ?_
   exact ⟨by rw [HR.out];rfl,zBs (Hk.setCell (by simp) _) (mC _)⟩
  have Kf:(e2 != 0)=true:=by simpa using Hi
  have hr:Scu.decode s=(Scu.req0,e2):=by rw [HD.out,if_neg (by simp),if_pos Hi]
  have HR:=mA hr
  clear hr Hi
  go_wp2
  refine bodyPost_ret (v:=.tuple #[.agg #[.int .i64 0,.int .i64 0,.int .i64 0,.int .i64 0,.int .i64 0,.string ⟨#[]⟩],.int .i64 e2]) (by simp [results,Tryd.results30,go_sem,u0,u1,u2,u3,u4,u5]) rfl ?_
  exact ⟨by rw [HR.out];rfl,zBs (Hk.setCell (by simp) _) (mC _)⟩
 have Kg:(e1 != 0)=true:=by simpa using Hh
 have hr:Scu.decode s=(Scu.req0,e1):=by rw [HD.out,if_pos Hh]
 have HR:=mA hr
 clear hr Hh
 go_wp2
 have Hf:=(((Blk.new w 56 #[.int .i64 0,.int .i64 0,.int .i64 0,.int .i64 0,.int .i64 0,.string ⟨#[]⟩]).alloc (.cells #[.int .i64 (Scu.byteAt s 0),.int .i64 0,.int .i64 (Scu.byteAt s 1),.int .i64 (Scu.byteAt s 2),.int .i64 (Scu.byteAt s 3),.string ⟨#[]⟩] 56)).drew).same h1
 obtain ⟨u0,u1,u2,u3,u4,u5⟩:=cz6 Hf
 refine bodyPost_ret (v:=.tuple #[.agg #[.int .i64 0,.int .i64 0,.int .i64 0,.int .i64 0,.int .i64 0,.string ⟨#[]⟩],.int .i64 e1]) (by simp [results,Tryd.results30,go_sem,u0,u1,u2,u3,u4,u5]) rfl ?_
 exact ⟨by rw [HR.out];rfl,zBs (Ho.setCell (by simp) _) (mC _)⟩
attribute [local go_sem] zCu zDm zCg
end Go.Proofs.YtjnjhmkgfjikfaaDoor
