/- The card of the law 'LeadersLead': for every input the call returns true; each argument reads as it did. Condition: the three tables of numbers that the library reads hold what the program's text lays in them, which the card ties. -/
import Derived.Test.YtjnjhmkgfjikfaaDoorCards
import Derived.SevenTiedAt
import Derived.ChangeOld
import Derived.Below
import Derived.Test.YtjnjhmkgfjikfaaDoorLv27
set_option linter.unusedVariables false
set_option linter.unusedSimpArgs false
set_option maxHeartbeats 4000000
set_option maxRecDepth 100000
namespace Go.Proofs.YtjnjhmkgfjikfaaDoor
open Go.RowKit
theorem joined {G R:Prop} (h:G→R) (g:G):R:=h g
def RepBox (w:World) (g:Nat) (r:Scu.Replica):Prop:=∃ lu hv wv gv nv,Blk w g 30 (repV r lu hv wv gv nv).toArray∧IsRep w 0 lu hv wv gv nv r
theorem RepBox.below {w w':World} {g:Nat} {r:Scu.Replica} (h:RepBox w g r) (hb:Below w.heap.size w w'):RepBox w' g r:=by
 obtain ⟨lu,hv,wv,gv,nv,h1,h2⟩:=h
 exact ⟨lu,hv,wv,gv,nv,h1.same hb,h2.below hb⟩
theorem RepBox.get {w:World} {g:Nat} {r:Scu.Replica} (h:RepBox w g r):∃ F0 n0 q0 F1 q1 F2 q2 F3 q3 F4 q4,IsRep w 0 (.slice F0 n0 q0) (.slice F1 r.have_.length q1) (.slice F2 r.wants.length q2) (.slice F3 r.gives.length q3) (.slice F4 r.given.length q4) r∧g < w.heap.size ∧
 w.cell? ⟨g,0,none⟩=some (.int .i64 r.me)∧w.cell? ⟨g,1,none⟩=some (.int .i64 r.kept.view)∧w.cell? ⟨g,2,none⟩=some (.int .i64 r.kept.normal)∧w.cell? ⟨g,3,none⟩=some (.bool r.kept.calm)∧w.cell? ⟨g,4,none⟩=some (.slice F0 n0 q0)∧w.cell? ⟨g,5,none⟩=some (.int .i64 r.kept.commit) ∧
 w.cell? ⟨g,6,none⟩=some (.slice F1 r.have_.length q1)∧w.cell? ⟨g,7,none⟩=some (.slice F2 r.wants.length q2)∧w.cell? ⟨g,8,none⟩=some (.slice F3 r.gives.length q3)∧w.cell? ⟨g,9,none⟩=some (.slice F4 r.given.length q4):=by
 obtain ⟨lu,hv,wv,gv,nv,h1,h2⟩:=h
 obtain ⟨F0,n0,q0,F1,q1,F2,q2,F3,q3,F4,q4,rfl,rfl,rfl,rfl,rfl⟩:=h2.forms
 exact ⟨F0,n0,q0,F1,q1,F2,q2,F3,q3,F4,q4,h2,h1.lt,h1.cell 0,h1.cell 1,h1.cell 2,h1.cell 3,h1.cell 4,h1.cell 5,h1.cell 6,h1.cell 7,h1.cell 8,h1.cell 9⟩
theorem zBt {g:Nat} {q:Addr} (h:q.block≠g):∀ (vs:List Value) (o:Nat) (w:World),(w.setCells g o vs).cell? q=w.cell? q
 | [],_,_=>rfl
 | v :: r,o,w=>(zBt h r (o+1) _).trans (zFu h)
theorem zCf {W:World} {g:Nat} {r0 r:Scu.Replica} {lu hv wv gv nv:Value} (hB:RepBox W g r0) (hr:IsRep W 0 lu hv wv gv nv r):RepBox (W.setCells g 0 (repV r lu hv wv gv nv)) g r∧Same [9,3,4,25,43] 0 W (W.setCells g 0 (repV r lu hv wv gv nv)) ∧
 ∀ g' r',g'≠g→RepBox W g' r'→RepBox (W.setCells g 0 (repV r lu hv wv gv nv)) g' r':=by
 obtain ⟨lu0,Hc,wv0,gv0,nv0,h1,h2⟩:=hB
 have hs:Same [9,3,4,25,43] 0 W (W.setCells g 0 (repV r lu hv wv gv nv)):=Same.sets _ 0 W _ h1 (by decide)
 refine ⟨⟨lu,hv,wv,gv,nv,zGf h1 rfl,hr.same (hs.mono (by simp) (Nat.le_refl _))⟩,hs,fun g' r' Ha h=>?_⟩
 obtain ⟨lu1,Hb,wv1,gv1,nv1,h3,h4⟩:=h
 exact ⟨lu1,Hb,wv1,gv1,nv1,zCd Ha _ 0 W h3,h4.same (hs.mono (by simp) (Nat.le_refl _))⟩
theorem zDf {w:World} {A:Option Addr} {n c:Nat} {ms:List Scu.Message} (h:IsRow 43 8 80 MsgE w 0 (.slice A n c) ms) {k:Nat} (hk:k < ms.length) {m:Scu.Message} (e:ms[k]=m) :
 ∃ g o X nx cx,A=some ⟨g,o,none⟩∧g < w.heap.size∧IsStrs w 0 (.slice X nx cx) m.log∧w.cell? ⟨g,o+k*8,none⟩=some (.int .i64 m.kind)∧w.cell? ⟨g,o+k*8+1,none⟩=some (.int .i64 m.from_)∧w.cell? ⟨g,o+k*8+2,none⟩=some (.int .i64 m.tq)∧w.cell? ⟨g,o+k*8+3,none⟩=some (.int .i64 m.view) ∧
  w.cell? ⟨g,o+k*8+4,none⟩=some (.int .i64 m.normal)∧w.cell? ⟨g,o+k*8+5,none⟩=some (.int .i64 m.commit)∧w.cell? ⟨g,o+k*8+6,none⟩=some (.int .i64 m.n)∧w.cell? ⟨g,o+k*8+7,none⟩=some (.slice X nx cx):=by
 obtain ⟨⟨A',c',css2,e1,_,h2,h3,Hc,h4⟩,_⟩:=h
 cases e1
 obtain ⟨g,o,cs1,rfl,hg,_,Ha,xv,Hd,Hb⟩:=zCo h2 h3 (by decide) Hc h4 hk
 subst Hd
 rw [e] at Ha Hb
 obtain ⟨X,nx,cx,rfl⟩:=Hb.form
 exact ⟨g,o,X,nx,cx,rfl,hg,Hb,Ha 0 _ rfl,Ha 1 _ rfl,Ha 2 _ rfl,Ha 3 _ rfl,Ha 4 _ rfl,Ha 5 _ rfl,Ha 6 _ rfl,Ha 7 _ rfl⟩
structure LeadW (w W:World) (ga go gb:Nat) (j:Int) (Ae:Option Addr) (ce:Nat) (es:List Scu.Str) (k:Nat):Prop where
 a:∃ a,RepBox W ga a∧Scu.LeadA a (es.take k)
 b:∃ b,RepBox W gb b∧Scu.FollowB b j (es.take k)
 o:Blk W go 3 #[.int .i64 j]
 e:IsStrs W 0 (.slice Ae es.length ce) es
 low:Below w.heap.size w W
theorem zKp {j:Int} (hj:j=1 ∨ j=2) (k:Nat) (L:List Scu.Str) (ms:List Scu.Message) (Ha : [Scu.leadMsg 1 k L,Scu.leadMsg 2 k L]=ms):∃ kk:Nat,idxI (fun m:Scu.Message=>decide (m.tq=j)) ms=kk∧∃ h:kk < ms.length,ms[kk]=Scu.leadMsg j k L:=by
 subst Ha
 rcases hj with rfl | rfl
 ·exact ⟨0,rfl,by simp,rfl⟩
 exact ⟨1,rfl,by simp,rfl⟩
theorem lawLeadersLead_c (v:Value) (l:List Scu.Raw) (n:Int) (hn:InI n) (w:World) (h:IsRaws w w.heap.size v l) (ht:Tab w) :
 Calls Tryd.prog 3 #[v,.int .i64 n] w fun e w'=>e=.returned (.bool true)∧Below w.heap.size w w':=by
 obtain ⟨Al,cl,rfl,Yb⟩:=h.form'
 have hp:=Scu.picked_lt (n:=n) (many:=2) (by decide)
 have KP:=Lib.hid (fun W=>zAy n 2 hn (by decide) (by decide) W)
 obtain ⟨p,Gl⟩:∃ p,Scu.picked n 2=p:=⟨_,rfl⟩
 rw [Gl] at hp KP
 obtain ⟨j,Gm⟩:∃ j:Int,1+p=j:=⟨_,rfl⟩
 have hj:j=1 ∨ j=2:=by omega
 have Yc:(1:Int)≤j:=by omega
 have Yd:j≤2:=by omega
 have Ye:IntKind.i64.wrap (1+p)=j:=by rw [IntWalk.i64_in _ (by omega)];exact Gm
 obtain ⟨a0,Go,Kh⟩:=Scu.lead_new
 obtain ⟨b0,Km,Ki⟩:=Scu.follow_new hj
 have Vt:=Lib.hid (And.intro Go Kh)
 have Vu:=Lib.hid (And.intro Km Ki)
 have HL:=Lib.hid h
 have HT:=Lib.hid ht
 have HJ:=Lib.hid hj
 clear h ht Go Kh Km Ki hn Gl hp hj
 go_enter Tryd.func3,Tryd.ntmps3
 go_wp2_with fail
 refine (zDq none 0 0 0 ⟨0,0,true,[],0⟩ w 0 IsStrs.nil_ a0 0 Vt.out.1).mono ?_;rintro e w1 ⟨⟨lu,hv,wv,gv,nv,rfl,He⟩,h1⟩
 obtain ⟨F0,Fn,Fc0,F1,Fc1,F2,Fc2,F3,Fc3,F4,Fc4,rfl,rfl,rfl,rfl,rfl⟩:=He.forms
 go_upto_region 2 with fail
 have Hk:=zAa w1 (Obj.cells (rN a0 F0 Fn Fc0 F1 Fc1 F2 Fc2 F3 Fc3 F4 Fc4) 30)
 have Hh:RepBox (w1.alloc (Obj.cells (rN a0 F0 Fn Fc0 F1 Fc1 F2 Fc2 F3 Fc3 F4 Fc4) 30)) w1.heap.size a0:=⟨_,_,_,_,_,Blk.new w1 _ _,He.below Hk⟩
 have Hi:=h1.trans (Hk.mono h1.size)
 obtain ⟨Wa,Vc⟩:∃ W,W=w1.alloc (Obj.cells (rN a0 F0 Fn Fc0 F1 Fc1 F2 Fc2 F3 Fc3 F4 Fc4) 30):=⟨_,rfl⟩
 obtain ⟨ga,Vd⟩:∃ g,w1.heap.size=g:=⟨_,rfl⟩
 have Nq:w.heap.size≤ga:=by rw [← Vd];exact h1.size
 rw [← Vc,Vd] at Hh
 rw [← Vc] at Hi
 rw [← Vc,Vd]
 have Ve:=Lib.hid (And.intro Hh Hi)
 have Kn:ga < Wa.heap.size:=by obtain ⟨_,_,_,_,_,hh,_⟩:=Hh;exact hh.lt
 clear Vc Vd Hh Hi Hk He h1
 go_wp2_with fail
 refine (KP.out _).mono ?_;rintro e w' ⟨rfl,rfl⟩
 clear KP
 go_upto_region 3 with fail
 have Hk:=zAa Wa (Obj.cells #[.int .i64 j] 3)
 have Hs:=Blk.new Wa 3 #[.int .i64 j]
 have Hh:=Ve.out.1.below Hk
 have Hi:=Ve.out.2.trans (Hk.mono Ve.out.2.size)
 try rw [IntWalk.wrap64_in j (by omega)]
 try rw [Gm]
 obtain ⟨Wb,Vf⟩:∃ W,W=Wa.alloc (Obj.cells #[.int .i64 j] 3):=⟨_,rfl⟩
 obtain ⟨go,Vg⟩:∃ g,Wa.heap.size=g:=⟨_,rfl⟩
 rw [← Vf,Vg] at Hs
 rw [← Vf] at Hh Hi
 rw [← Vf,Vg]
 rw [Vg] at Kn
 have u0:=cz1 Hs
 have Ko:=Lib.hid (And.intro Hh (And.intro Hs Hi))
 have Vv:go < Wb.heap.size:=Hs.lt
 clear Vf Vg Hh Hs Hi Hk Ve
 go_wp2_with fail
 refine (zDq none 0 0 j ⟨0,0,true,[],0⟩ Wb 0 IsStrs.nil_ b0 0 Vu.out.1).mono ?_;rintro e w1 ⟨⟨lu,hv,wv,gv,nv,rfl,He⟩,h1⟩
 obtain ⟨G0,Gn,Gc0,G1,Gc1,G2,Gc2,G3,Gc3,G4,Gc4,rfl,rfl,rfl,rfl,rfl⟩:=He.forms
 go_upto_region 4 with fail
 have Hk:=zAa w1 (Obj.cells (rN b0 G0 Gn Gc0 G1 Gc1 G2 Gc2 G3 Gc3 G4 Gc4) 30)
 have Vw:RepBox (w1.alloc (Obj.cells (rN b0 G0 Gn Gc0 G1 Gc1 G2 Gc2 G3 Gc3 G4 Gc4) 30)) w1.heap.size b0:=⟨_,_,_,_,_,Blk.new w1 _ _,He.below Hk⟩
 have Vh:=h1.trans (Hk.mono h1.size)
 have Hh:=Ko.out.1.below Vh
 have Hs:=Ko.out.2.1.same Vh
 have Hi:=Ko.out.2.2.trans (Vh.mono Ko.out.2.2.size)
 have Gp:=h1.size
 obtain ⟨Wc,Vi⟩:∃ W,W=w1.alloc (Obj.cells (rN b0 G0 Gn Gc0 G1 Gc1 G2 Gc2 G3 Gc3 G4 Gc4) 30):=⟨_,rfl⟩
 obtain ⟨gb,Vj⟩:∃ g,w1.heap.size=g:=⟨_,rfl⟩
 rw [← Vi,Vj] at Vw
 rw [← Vi] at Hh Hs Hi
 rw [← Vi,Vj]
 rw [Vj] at Gp
 have Nr:ga≠go:=by omega
 have Ns:ga≠gb:=by omega
 have Nt:go≠gb:=by omega
 have Nu:w.heap.size≤gb:=by omega
 have Ht:=Lib.hid (And.intro Hh (And.intro Hs (And.intro Vw Hi)))
 clear Vi Vj Gp Hh Hs Vw Hi Hk Ko h1 Vh He u0 Vv Kn
 go_wp2_with fail
 refine (zEu _ l 12 Wc w.heap.size Ht.out.2.2.2.size (HL.out.below Ht.out.2.2.2) (HT.out.below Ht.out.2.2.2) (by decide)).mono ?_;rintro e w1 ⟨⟨A,c,css,rfl,ho⟩,b1⟩
 have hq:IsReqs w1 0 (.slice A (Scu.requests l 12).length c) (Scu.requests l 12):=ho.is
 have Kp:=Scu.requests_ok l 12 (by decide)
 have Hz:(Scu.requests l 12).length≤12:=by rw [Scu.requests_length];omega
 obtain ⟨qs,Gq⟩:∃ qs,Scu.requests l 12=qs:=⟨_,rfl⟩
 rw [Gq] at hq Kp Hz ⊢
 have Hp:=Scu.entries_ok Kp
 have Ka:=Scu.entries_size Kp
 have Nv:(Scu.entries qs).length≤12:=by rw [Scu.entries_length];exact Hz
 have Gr:=Lib.hid Kp
 have HQ:=Lib.hid hq
 clear Gq ho css hq Kp HL HT
 go_wp2_with fail
 refine (zFv _ qs w1 HQ.out Gr.out (by omega)).mono ?_;rintro e w2 ⟨⟨Ae,ce,rfl,he⟩,b2⟩
 obtain ⟨es,Gs⟩:∃ es,Scu.entries qs=es:=⟨_,rfl⟩
 rw [Gs] at he Hp Ka Nv ⊢
 have b12:=b1.trans (b2.mono b1.size)
 have Gt:=Lib.hid (show Scu.AllIn es from fun e he=>Hp e he)
 have Nw:=Lib.hid Ka
 have Nx:=Lib.hid (show LeadW w w2 ga go gb j Ae ce es 0 from ⟨⟨a0,Ht.out.1.below b12,Vt.out.2⟩,⟨b0,Ht.out.2.2.1.below b12,Vu.out.2⟩,Ht.out.2.1.same b12,he,Ht.out.2.2.2.trans (b12.mono Ht.out.2.2.2.size)⟩)
 clear he Hp Ka b1 b2 b12 Gs Ht HQ Gr Vt Vu Hz
 go_wp2_with fail
 go_loopw [46] (fun i wr=>∃ k:Nat,k≤es.length∧i=.int .i64 k∧Hid (LeadW w wr ga go gb j Ae ce es k)) (fun i _=>es.length - (intOf i).toNat)
 case atStart=>exact ⟨0,Nat.zero_le _,rfl,Nx⟩
 case round =>
  obtain ⟨k,hk,rfl,HK⟩:=hrel
  by_cases Vk:k < es.length
  ·have Vx:(k:Int) < (es.length:Int):=by omega
   obtain ⟨a,Gu,Kh⟩:=HK.out.a
   obtain ⟨b,Vy,Ki⟩:=HK.out.b
   obtain ⟨ge,oe,rfl,Yf,Ny⟩:∃ g o,Ae=some ⟨g,o,none⟩∧g < wr.heap.size∧wr.cell? ⟨g,o+k,none⟩=some (.string es[k]):=by
    obtain ⟨A,c,e,_,hr⟩:=HK.out.e.ex
    cases e
    exact zEz hr Vk
   have Kq:Scu.AllIn (es.take k):=fun e he=>Gt.out e (List.mem_of_mem_take he)
   have Kr:=Gt.out _ (List.getElem_mem Vk)
   have Vz:=Nw.out _ (List.getElem_mem Vk)
   have Vl:=List.take_succ_eq_append_getElem Vk
   obtain ⟨s,hs⟩:∃ s,es[k]=s:=⟨_,rfl⟩
   rw [hs] at Ny Kr Vz Vl
   obtain ⟨L,hL⟩:∃ L,es.take k=L:=⟨_,rfl⟩
   have Vm:L.length=k:=by rw [← hL,List.length_take];omega
   rw [hL] at Kh Ki Kq Vl
   have Hu:L.length < 60:=by omega
   obtain ⟨x,hx,Gv,Ga,Gw⟩:=Scu.lead_take Kh Kr Kq Hu
   obtain ⟨y,hy,Gx⟩:=Scu.follow_hear HJ.out Ki Kr Kq Hu
   obtain ⟨z,on,hz,Gy,Gz,Na⟩:=Scu.lead_hear HJ.out Gv Ga Gw Kr Kq Hu
   obtain ⟨ms,Hf⟩:∃ ms,[Scu.leadMsg 1 L.length (L ++ [s]),Scu.leadMsg 2 L.length (L ++ [s])]=ms:=⟨_,rfl⟩
   obtain ⟨kk,Nb,Nz,Nc⟩:=zKp HJ.out L.length (L ++ [s]) ms Hf
   have Yg:(ms.length:Int)=2:=by rw [← Hf];rfl
   obtain ⟨bk,Vn⟩:∃ bk,[Scu.hasMsg j (L.length+1)]=bk:=⟨_,rfl⟩
   have Yh:(bk.length:Int)=1:=by rw [← Vn];rfl
   have Km:∃ h:0 < bk.length,bk[0]=Scu.hasMsg j (L.length+1):=by subst Vn;exact ⟨by simp,rfl⟩
   have Ra:(on.length:Int)=2:=by rw [Gy];rfl
   have Nd:x.kept.commit=(k:Int):=by rw [Ga,← Vm]
   have Ks:z.kept.commit=(k:Int)+1:=by rw [Gz,Vm];omega
   rw [Hf] at hx
   rw [Vn] at hy
   have Rb:=Lib.hid Nd
   have Ne:=Lib.hid Ks
   clear Nd Ks
   have HX:=Lib.hid hx
   have HY:=Lib.hid (And.intro hy Gx)
   have HZ:=Lib.hid (And.intro hz Na)
   have Nf:=Lib.hid Vl
   have Ng:=Lib.hid (And.intro Nb Nc)
   have Rc:=Lib.hid Km
   have Re:=Lib.hid Vm
   have Gb:=Lib.hid Vz
   have Yi:IntKind.i64.wrap ((k:Int)+1)=(k:Int)+1:=IntWalk.i64_in _ (by omega)
   have Rf:=Lib.hid (show ((k+1:Nat):Int)=(k:Int)+1 by omega)
   clear hx hy hz Gx Na Vl Nb Nc Km Vn Hf Kh Ki Kq Kr Vz hL Vm hs Ga Gw Gv Gz Gy Hu
   obtain ⟨P0,Pn,Pc0,P1,Pc1,P2,Pc2,P3,Pc3,P4,Pc4,Kt,Ho,p0,p1,p2,p3,p4,p5,p6,p7,p8,p9⟩:=(Gu).get
   have Rg:=Lib.hid (And.intro Ho (show gb < wr.heap.size by obtain ⟨_,_,_,_,_,hh,_⟩:=Vy;exact hh.lt))
   have Gc:=Lib.hid (And.intro Kt Vy)
   clear Kt Gu Vy
   go_wp2_with fail
   refine (zNe _ _ _ _ _ a s (by have:=Gb.out;unfold R47;omega) wr 0 Gc.out.1 x ms 0 HX.out).mono ?_;rintro e w3 ⟨⟨E0,En,Ec0,E1,Ec1,E2,Ec2,E3,Ec3,E4,Ec4,Ao,co,rfl,He,Hf,-⟩,h3⟩
   go_upto_region 10 with fail
   have Hk:=zAa w3 (Obj.cells (rN x E0 En Ec0 E1 Ec1 E2 Ec2 E3 Ec3 E4 Ec4) 30)
   have Hh:RepBox (w3.alloc (Obj.cells (rN x E0 En Ec0 E1 Ec1 E2 Ec2 E3 Ec3 E4 Ec4) 30)) w3.heap.size x:=⟨_,_,_,_,_,Blk.new w3 _ _,He.below Hk⟩
   have Hf:=IsMs.below Hf Hk
   have Hi:=h3.trans (Hk.mono h3.size)
   obtain ⟨W1,Vo⟩:∃ W,W=w3.alloc (Obj.cells (rN x E0 En Ec0 E1 Ec1 E2 Ec2 E3 Ec3 E4 Ec4) 30):=⟨_,rfl⟩
   obtain ⟨gx,Vp⟩:∃ g,w3.heap.size=g:=⟨_,rfl⟩
   rw [← Vo,Vp] at Hh
   rw [← Vo] at Hf Hi
   rw [← Vo,Vp]
   have Rh:wr.heap.size≤gx:=by rw [← Vp];exact h3.size
   clear Vo Vp Hk h3 He p0 p1 p2 p3 p4 p5 p6 p7 p8 p9
   obtain ⟨X0,Xn,Xc0,X1,Xc1,X2,Xc2,X3,Xc3,X4,Xc4,Vq,Hq,x0,x1,x2,x3,x4,x5,x6,x7,x8,x9⟩:=(Hh).get
   have Hl:=Lib.hid (And.intro Hh (And.intro Hf Hi))
   have Ku:=HK.out.o.same Hi
   have Kv:=Gc.out.2.below Hi
   rw [Rb.out] at x5
   clear Hh Hf Hi Gc Vq
   go_wp2_with fail
   refine (zIw _ ms W1 Hl.out.2.1 go j Ku).mono ?_;rintro e w4 ⟨rfl,h4⟩
   rw [Ng.out.1]
   go_upto_region 13 with fail
   have Ri:=Lib.hid (Nat.le_trans Hl.out.2.2.size h4.size)
   have Kb:=IsMs.below Hl.out.2.1 h4
   have Kj:=Lib.hid (And.intro (Hl.out.1.below h4) (Hl.out.2.2.trans (h4.mono Hl.out.2.2.size)))
   have Kw:=Kv.below h4
   clear h4 Hl Ku Kv x0 x1 x2 x3 x4 x5 x6 x7 x8 x9
   obtain ⟨P0,Pn,Pc0,P1,Pc1,P2,Pc2,P3,Pc3,P4,Pc4,Kt,Ho,p0,p1,p2,p3,p4,p5,p6,p7,p8,p9⟩:=(Kw).get
   obtain ⟨gm,om,X,nx,cx,rfl,Hy,Nh,ma0,ma1,ma2,ma3,ma4,ma5,ma6,ma7⟩:=zDf Kb Nz Ng.out.2
   have Gd:=Lib.hid Kb
   have HC:=Lib.hid (fun (W:World) (hb:Below w4.heap.size w4 W)=>zFw _ _ _ _ _ _ b (Scu.leadMsg j L.length (L ++ [s])) W 0 (Kt.below hb) (Nh.below hb) y bk 0 HY.out.1)
   dsimp only [Scu.leadMsg] at ma0 ma1 ma2 ma3 ma4 ma5 ma6 ma7 HC
   have Rj:(kk:Int) < (ms.length:Int):=by omega
   have Rk:(kk:Int) < 2:=by omega
   clear Kb Kt Nh Kw
   go_wp2_with fail
   refine joined (G:=?G) (fun key=>?first) ?rest
   case first =>
    obtain ⟨S,Hc⟩:∃ S:World→Prop,S=fun w'=>Below w4.heap.size w4 w':=⟨_,rfl⟩
    have Hb:S w4.drew:=by rw [Hc];exact (Below.refl _ _).drew
    refine wp_region_held (S:=S) (by kernel_rfl) ?_
    change wpAnyH _ _ _ _ _ _ _ _ w4.drew
    have Rl:=fun (wv:World) (Ha:Below w4.heap.size w4 wv)=>And.intro (cW Ha Ho p0) (And.intro (cW Ha Ho p1) (And.intro (cW Ha Ho p2) (And.intro (cW Ha Ho p3) (And.intro (cW Ha Ho p4) (And.intro (cW Ha Ho p5) (And.intro (cW Ha Ho p6) (And.intro (cW Ha Ho p7) (And.intro (cW Ha Ho p8) (cW Ha Ho p9)))))))))
    refine tkH 0 (v:=?_) rfl (by kernel_rfl) (fun _ _ _ h=>h) (Or.inl ⟨by rfl,?_⟩) Hb ?_
    rotate_left
    ·(intro wv Ha;rw [Hc] at Ha;obtain ⟨s0,s1,s2,s3,s4,s5,s6,s7,s8,s9⟩:=Rl wv Ha;go_simp;(try with_reducible rfl))
    (try simp only [Act.put,zp1,zp2,zp3])
    refine tkHs [1,2,3] (by kernel_rfl) (fun _ _ _ _ _ h=>h) Hb ?_
    iterate 3
     refine tkc (v:=?_) rfl (Or.inl ⟨by rfl,?_⟩) ?_
     rotate_left
     ·(intro wv Ha;rw [Hc] at Ha;go_simp;(try with_reducible rfl))
     (try simp only [Act.put,zp1,zp2,zp3])
    refine tkz ?_
    have Rm:=fun (wv:World) (Ha:Below w4.heap.size w4 wv)=>And.intro (cW Ha Hy ma0) (And.intro (cW Ha Hy ma1) (And.intro (cW Ha Hy ma2) (And.intro (cW Ha Hy ma3) (And.intro (cW Ha Hy ma4) (And.intro (cW Ha Hy ma5) (And.intro (cW Ha Hy ma6) (cW Ha Hy ma7)))))))
    refine tkH 4 (v:=?_) rfl (by kernel_rfl) (fun _ _ _ h=>h) (Or.inl ⟨by rfl,?_⟩) Hb ?_
    rotate_left
    ·(intro wv Ha;rw [Hc] at Ha;obtain ⟨t0,t1,t2,t3,t4,t5,t6,t7⟩:=Rm wv Ha;go_simp;(try with_reducible rfl))
    (try simp only [Act.put,zp1,zp2,zp3])
    refine wpAnyH_all (rs:=[5,10]) (by kernel_rfl) (by simp) ?_
    intro ii Kx
    simp only [List.mem_cons,List.not_mem_nil,or_false] at Kx
    rcases Kx with rfl | rfl
    ·refine wpOp_step (o:=_) rfl (fun KS Hr=>?_)
     go_simp
     have dd:Below w4.heap.size w4 w4.drew:=(Below.refl _ _).drew
     refine (HC.out _ dd).mono ?_;rintro en x1 ⟨⟨E0,m0,z0,E1,z1,E2,z2,E3,z3,E4,z4,Ao,co,rfl,He,Hf,Kc⟩,k1⟩
     have nn1:=dd.trans (k1.mono dd.size)
     have M1:=Lib.hid nn1
     have Hg:=Lib.hid (And.intro He Hf)
     have Hb:S x1:=by rw [Hc];exact nn1
     refine Hr _ _ ⟨Hb,?_⟩
     clear Hr nn1 k1 He Hf Kc dd
     (try simp only [Act.put,zp1,zp2,zp3])
     refine tkHs [6,7,8,9] (by kernel_rfl) (fun _ _ _ _ _ h=>h) Hb ?_
     iterate 4
      refine tkc (v:=?_) rfl (Or.inl ⟨by rfl,?_⟩) ?_
      rotate_left
      ·(intro wv Ha;rw [Hc] at Ha;go_simp;(try with_reducible rfl))
      (try simp only [Act.put,zp1,zp2,zp3])
     refine tkz ?_
     refine alH 10 (by kernel_rfl) (wpOp_step (o:=_) rfl fun KA Hm=>?_)
     go_simp
     have Hb:S (x1.alloc (Obj.cells zR 30)):=by rw [Hc];exact M1.out.alloc M1.out.size _
     refine Hm _ _ ⟨Hb,?_⟩
     (try simp only [Act.put,zp1,zp2,zp3])
     refine alH 11 (by kernel_rfl) (wpOp_step (o:=_) rfl fun KB Hn=>?_)
     rw [if_pos (by rfl)]
     refine wp_store_mid 30 (.tmp 16) (.tmp 82) rfl x1.heap.size 0 (rN y E0 m0 z0 E1 z1 E2 z2 E3 z3 E4 z4) rfl rfl (zAs (Blk.new x1 30 zR)) (by kernel_rfl) (all_oneCell_toArray (zBk Hg.out.1)) ?_
     have Hd:S ((x1.alloc (Obj.cells zR 30)).setCells x1.heap.size 0 (rL y E0 m0 z0 E1 z1 E2 z2 E3 z3 E4 z4)):=by rw [Hc] at Hb ⊢;exact zAl M1.out.size _ 0 _ _ Hb
     refine Hn _ _ ⟨Hd,?_⟩
     have Hb:=Hd
     (try simp only [Act.put,zp1,zp2,zp3])
     change wpAnyH _ _ _ _ _ _ _ _ ((x1.alloc (Obj.cells zR 30)).setCells x1.heap.size 0 (rL y E0 m0 z0 E1 z1 E2 z2 E3 z3 E4 z4))
     refine tkHs [12,13] (by kernel_rfl) (fun _ _ _ _ _ h=>h) Hb ?_
     iterate 2
      refine tkc (v:=?_) rfl (Or.inl ⟨by rfl,?_⟩) ?_
      rotate_left
      ·(intro wv Ha;rw [Hc] at Ha;go_simp;(try with_reducible rfl))
      (try simp only [Act.put,zp1,zp2,zp3])
     refine tkz ?_
     refine wpAnyH_done (by kernel_rfl) ?_ _
     (try simp only [Act.put,zp1,zp2,zp3])
     obtain ⟨gq,Kd⟩:∃ g,x1.heap.size=g:=⟨_,rfl⟩
     obtain ⟨W3,Ke⟩:∃ W,W=(x1.alloc (Obj.cells zR 30)).setCells x1.heap.size 0 (rL y E0 m0 z0 E1 z1 E2 z2 E3 z3 E4 z4):=⟨_,rfl⟩
     have HQ:Hid (Below w4.heap.size w4 W3∧Blk W3 gq 30 (rN y E0 m0 z0 E1 z1 E2 z2 E3 z3 E4 z4)∧IsRep W3 0 (.slice E0 m0 z0) (.slice E1 y.have_.length z1) (.slice E2 y.wants.length z2) (.slice E3 y.gives.length z3) (.slice E4 y.given.length z4) y∧IsRow 43 8 80 MsgE W3 0 (.slice Ao bk.length co) bk∧w4.heap.size≤gq):=by rw [Ke,← Kd];have q0:=zBe Hg.out.1 Hg.out.2 (M1.out.alloc M1.out.size _) (Blk.new x1 30 zR) M1.out.size (zAa x1 _);exact Lib.hid ⟨q0.1,q0.2.1,q0.2.2.1,q0.2.2.2,M1.out.size⟩
     change Exit.then _ _ _ _ ((x1.alloc (Obj.cells zR 30)).setCells x1.heap.size 0 (rL y E0 m0 z0 E1 z1 E2 z2 E3 z3 E4 z4))
     rw [← Ke]
     rw [Kd]
     clear Ke Kd Hb Hd Hc Hm Hn Hg M1
     revert HQ
     revert W3 gq
     revert E0 m0 z0 E1 z1 E2 z2 E3 z3 E4 z4 Ao co
     exact key
    refine wpOp_step (o:=_) rfl (fun KA Hm=>?_)
    go_simp
    have dd:Below w4.heap.size w4 (w4.drew.alloc (Obj.cells zR 30)):=(Below.refl _ _).drew.alloc (Nat.le_refl _) _
    have Hb:S (w4.drew.alloc (Obj.cells zR 30)):=by rw [Hc];exact dd
    refine Hm _ _ ⟨Hb,?_⟩
    (try simp only [Act.put,zp1,zp2,zp3])
    refine alH 5 (by kernel_rfl) (wpOp_step (o:=_) rfl fun KS Hr=>?_)
    go_simp
    refine (HC.out _ dd).mono ?_;rintro en x1 ⟨⟨E0,m0,z0,E1,z1,E2,z2,E3,z3,E4,z4,Ao,co,rfl,He,Hf,Kc⟩,k1⟩
    have nn1:=dd.trans (k1.mono dd.size)
    have M1:=Lib.hid nn1
    have Hg:=Lib.hid (And.intro He Hf)
    have HZ:=Lib.hid ((Blk.new' (w:=w4.drew) (g:=w4.heap.size) (t:=30) (cs:=zR) rfl).same k1)
    have Hb:S x1:=by rw [Hc];exact nn1
    refine Hr _ _ ⟨Hb,?_⟩
    clear Hr nn1 k1 He Hf Kc dd
    (try simp only [Act.put,zp1,zp2,zp3])
    refine tkHs [6,7,8,9] (by kernel_rfl) (fun _ _ _ _ _ h=>h) Hb ?_
    iterate 4
     refine tkc (v:=?_) rfl (Or.inl ⟨by rfl,?_⟩) ?_
     rotate_left
     ·(intro wv Ha;rw [Hc] at Ha;go_simp;(try with_reducible rfl))
     (try simp only [Act.put,zp1,zp2,zp3])
    refine tkz ?_
    refine alH 11 (by kernel_rfl) (wpOp_step (o:=_) rfl fun KB Hn=>?_)
    rw [if_pos (by rfl)]
    refine wp_store_mid 30 (.tmp 16) (.tmp 82) rfl w4.heap.size 0 (rN y E0 m0 z0 E1 z1 E2 z2 E3 z3 E4 z4) rfl rfl (zAs HZ.out) (by kernel_rfl) (all_oneCell_toArray (zBk Hg.out.1)) ?_
    have Hd:S (x1.setCells w4.heap.size 0 (rL y E0 m0 z0 E1 z1 E2 z2 E3 z3 E4 z4)):=by rw [Hc] at Hb ⊢;exact zAl (Nat.le_refl _) _ 0 _ _ Hb
    refine Hn _ _ ⟨Hd,?_⟩
    have Hb:=Hd
    (try simp only [Act.put,zp1,zp2,zp3])
    change wpAnyH _ _ _ _ _ _ _ _ (x1.setCells w4.heap.size 0 (rL y E0 m0 z0 E1 z1 E2 z2 E3 z3 E4 z4))
    refine tkHs [12,13] (by kernel_rfl) (fun _ _ _ _ _ h=>h) Hb ?_
    iterate 2
     refine tkc (v:=?_) rfl (Or.inl ⟨by rfl,?_⟩) ?_
     rotate_left
     ·(intro wv Ha;rw [Hc] at Ha;go_simp;(try with_reducible rfl))
     (try simp only [Act.put,zp1,zp2,zp3])
    refine tkz ?_
    refine wpAnyH_done (by kernel_rfl) ?_ _
    (try simp only [Act.put,zp1,zp2,zp3])
    obtain ⟨gq,Kd⟩:∃ g,w4.heap.size=g:=⟨_,rfl⟩
    obtain ⟨W3,Ke⟩:∃ W,W=x1.setCells w4.heap.size 0 (rL y E0 m0 z0 E1 z1 E2 z2 E3 z3 E4 z4):=⟨_,rfl⟩
    have HQ:Hid (Below w4.heap.size w4 W3∧Blk W3 gq 30 (rN y E0 m0 z0 E1 z1 E2 z2 E3 z3 E4 z4)∧IsRep W3 0 (.slice E0 m0 z0) (.slice E1 y.have_.length z1) (.slice E2 y.wants.length z2) (.slice E3 y.gives.length z3) (.slice E4 y.given.length z4) y∧IsRow 43 8 80 MsgE W3 0 (.slice Ao bk.length co) bk∧w4.heap.size≤gq):=by rw [Ke,← Kd];have q0:=zBe Hg.out.1 Hg.out.2 M1.out HZ.out (Nat.le_refl _) (Below.refl _ _);exact Lib.hid ⟨q0.1,q0.2.1,q0.2.2.1,q0.2.2.2,(Nat.le_refl _)⟩
    change Exit.then _ _ _ _ (x1.setCells w4.heap.size 0 (rL y E0 m0 z0 E1 z1 E2 z2 E3 z3 E4 z4))
    rw [← Ke]
    rw [Kd]
    clear Ke Kd Hb Hd Hc Hm Hn Hg M1 HZ
    revert HQ
    revert W3 gq
    revert E0 m0 z0 E1 z1 E2 z2 E3 z3 E4 z4 Ao co
    exact key
   case rest =>
   intro E0 m0 z0 E1 z1 E2 z2 E3 z3 E4 z4 Ao co gq W3 HQ
   have Rn:=Lib.hid (show RepBox W3 gq y from ⟨_,_,_,_,_,HQ.out.2.1,HQ.out.2.2.1⟩)
   have Kk:=Lib.hid (And.intro (Kj.out.1.below HQ.out.1) (Kj.out.2.trans (HQ.out.1.mono Kj.out.2.size)))
   have Ge:w4.heap.size≤gq ∨ True:=.inr trivial
   obtain ⟨Ky,Ni⟩:=Rc.out
   obtain ⟨gm2,om2,X2,nx2,cx2,rfl,Hj,Kz,mb0,mb1,mb2,mb3,mb4,mb5,mb6,mb7⟩:=zDf HQ.out.2.2.2.1 Ky Ni
   simp only [Nat.zero_mul,Nat.add_zero] at mb0 mb1 mb2 mb3 mb4 mb5 mb6 mb7
   obtain ⟨X0,Xn,Xc0,X1,Xc1,X2,Xc2,X3,Xc3,X4,Xc4,Vq,Hq,x0,x1,x2,x3,x4,x5,x6,x7,x8,x9⟩:=(Kk.out.1).get
   have HC:=Lib.hid (fun (W:World) (hb:Below W3.heap.size W3 W)=>zFw _ _ _ _ _ _ x (Scu.hasMsg j (L.length+1)) W 0 (Vq.below hb) (Kz.below hb) z on 0 HZ.out.1)
   dsimp only [Scu.hasMsg] at mb0 mb1 mb2 mb3 mb4 mb5 mb6 mb7 HC
   rw [Re.out,Rf.out] at mb6 HC
   have Yj:(0:Int) < (bk.length:Int):=by omega
   clear Ge Vq Kz Ni Ky Gd Kj ma0 ma1 ma2 ma3 ma4 ma5 ma6 ma7 p0 p1 p2 p3 p4 p5 p6 p7 p8 p9
   go_wp2_with fail
   refine joined (G:=?G2) (fun key=>?first2) ?rest2
   case first2 =>
    obtain ⟨S,Hc⟩:∃ S:World→Prop,S=fun w'=>Below W3.heap.size W3 w':=⟨_,rfl⟩
    have Hb:S W3.drew:=by rw [Hc];exact (Below.refl _ _).drew
    refine wp_region_held (S:=S) (by kernel_rfl) ?_
    change wpAnyH _ _ _ _ _ _ _ _ W3.drew
    have Ro:=fun (wv:World) (Ha:Below W3.heap.size W3 wv)=>And.intro (cW Ha Hq x0) (And.intro (cW Ha Hq x1) (And.intro (cW Ha Hq x2) (And.intro (cW Ha Hq x3) (And.intro (cW Ha Hq x4) (And.intro (cW Ha Hq x5) (And.intro (cW Ha Hq x6) (And.intro (cW Ha Hq x7) (And.intro (cW Ha Hq x8) (cW Ha Hq x9)))))))))
    refine tkH 0 (v:=?_) rfl (by kernel_rfl) (fun _ _ _ h=>h) (Or.inl ⟨by rfl,?_⟩) Hb ?_
    rotate_left
    ·(intro wv Ha;rw [Hc] at Ha;obtain ⟨s0,s1,s2,s3,s4,s5,s6,s7,s8,s9⟩:=Ro wv Ha;go_simp;(try with_reducible rfl))
    (try simp only [Act.put,zp1,zp2,zp3])
    refine tkHs [1,2] (by kernel_rfl) (fun _ _ _ _ _ h=>h) Hb ?_
    iterate 2
     refine tkc (v:=?_) rfl (Or.inl ⟨by rfl,?_⟩) ?_
     rotate_left
     ·(intro wv Ha;rw [Hc] at Ha;go_simp;(try with_reducible rfl))
     (try simp only [Act.put,zp1,zp2,zp3])
    refine tkz ?_
    have Kj:=fun (wv:World) (Ha:Below W3.heap.size W3 wv)=>And.intro (cW Ha Hj mb0) (And.intro (cW Ha Hj mb1) (And.intro (cW Ha Hj mb2) (And.intro (cW Ha Hj mb3) (And.intro (cW Ha Hj mb4) (And.intro (cW Ha Hj mb5) (And.intro (cW Ha Hj mb6) (cW Ha Hj mb7)))))))
    refine tkH 3 (v:=?_) rfl (by kernel_rfl) (fun _ _ _ h=>h) (Or.inl ⟨by rfl,?_⟩) Hb ?_
    rotate_left
    ·(intro wv Ha;rw [Hc] at Ha;obtain ⟨t0,t1,t2,t3,t4,t5,t6,t7⟩:=Kj wv Ha;go_simp;(try with_reducible rfl))
    (try simp only [Act.put,zp1,zp2,zp3])
    refine wpAnyH_all (rs:=[4,9]) (by kernel_rfl) (by simp) ?_
    intro ii Kx
    simp only [List.mem_cons,List.not_mem_nil,or_false] at Kx
    rcases Kx with rfl | rfl
    ·refine wpOp_step (o:=_) rfl (fun KS Hr=>?_)
     go_simp
     have dd:Below W3.heap.size W3 W3.drew:=(Below.refl _ _).drew
     refine (HC.out _ dd).mono ?_;rintro en x1 ⟨⟨E0,m0,z0,E1,z1,E2,z2,E3,z3,E4,z4,Ao,co,rfl,He,Hf,Kc⟩,k1⟩
     have nn1:=dd.trans (k1.mono dd.size)
     have M1:=Lib.hid nn1
     have Hg:=Lib.hid (And.intro He Hf)
     have Hb:S x1:=by rw [Hc];exact nn1
     refine Hr _ _ ⟨Hb,?_⟩
     clear Hr nn1 k1 He Hf Kc dd
     (try simp only [Act.put,zp1,zp2,zp3])
     refine tkHs [5,6,7,8] (by kernel_rfl) (fun _ _ _ _ _ h=>h) Hb ?_
     iterate 4
      refine tkc (v:=?_) rfl (Or.inl ⟨by rfl,?_⟩) ?_
      rotate_left
      ·(intro wv Ha;rw [Hc] at Ha;go_simp;(try with_reducible rfl))
      (try simp only [Act.put,zp1,zp2,zp3])
     refine tkz ?_
     refine alH 9 (by kernel_rfl) (wpOp_step (o:=_) rfl fun KA Hm=>?_)
     go_simp
     have Hb:S (x1.alloc (Obj.cells zR 30)):=by rw [Hc];exact M1.out.alloc M1.out.size _
     refine Hm _ _ ⟨Hb,?_⟩
     (try simp only [Act.put,zp1,zp2,zp3])
     refine alH 10 (by kernel_rfl) (wpOp_step (o:=_) rfl fun KB Hn=>?_)
     rw [if_pos (by rfl)]
     refine wp_store_mid 30 (.tmp 19) (.tmp 107) rfl x1.heap.size 0 (rN z E0 m0 z0 E1 z1 E2 z2 E3 z3 E4 z4) rfl rfl (zAs (Blk.new x1 30 zR)) (by kernel_rfl) (all_oneCell_toArray (zBk Hg.out.1)) ?_
     have Hd:S ((x1.alloc (Obj.cells zR 30)).setCells x1.heap.size 0 (rL z E0 m0 z0 E1 z1 E2 z2 E3 z3 E4 z4)):=by rw [Hc] at Hb ⊢;exact zAl M1.out.size _ 0 _ _ Hb
     refine Hn _ _ ⟨Hd,?_⟩
     have Hb:=Hd
     (try simp only [Act.put,zp1,zp2,zp3])
     change wpAnyH _ _ _ _ _ _ _ _ ((x1.alloc (Obj.cells zR 30)).setCells x1.heap.size 0 (rL z E0 m0 z0 E1 z1 E2 z2 E3 z3 E4 z4))
     refine tkHs [11,12] (by kernel_rfl) (fun _ _ _ _ _ h=>h) Hb ?_
     iterate 2
      refine tkc (v:=?_) rfl (Or.inl ⟨by rfl,?_⟩) ?_
      rotate_left
      ·(intro wv Ha;rw [Hc] at Ha;go_simp;(try with_reducible rfl))
      (try simp only [Act.put,zp1,zp2,zp3])
     refine tkz ?_
     refine wpAnyH_done (by kernel_rfl) ?_ _
     (try simp only [Act.put,zp1,zp2,zp3])
     obtain ⟨gz,Kf⟩:∃ g,x1.heap.size=g:=⟨_,rfl⟩
     obtain ⟨W6,Kg⟩:∃ W,W=(x1.alloc (Obj.cells zR 30)).setCells x1.heap.size 0 (rL z E0 m0 z0 E1 z1 E2 z2 E3 z3 E4 z4):=⟨_,rfl⟩
     have Hv:Hid (Below W3.heap.size W3 W6∧Blk W6 gz 30 (rN z E0 m0 z0 E1 z1 E2 z2 E3 z3 E4 z4)∧IsRep W6 0 (.slice E0 m0 z0) (.slice E1 z.have_.length z1) (.slice E2 z.wants.length z2) (.slice E3 z.gives.length z3) (.slice E4 z.given.length z4) z∧IsRow 43 8 80 MsgE W6 0 (.slice Ao on.length co) on∧W3.heap.size≤gz):=by rw [Kg,← Kf];have q0:=zBe Hg.out.1 Hg.out.2 (M1.out.alloc M1.out.size _) (Blk.new x1 30 zR) M1.out.size (zAa x1 _);exact Lib.hid ⟨q0.1,q0.2.1,q0.2.2.1,q0.2.2.2,M1.out.size⟩
     change Exit.then _ _ _ _ ((x1.alloc (Obj.cells zR 30)).setCells x1.heap.size 0 (rL z E0 m0 z0 E1 z1 E2 z2 E3 z3 E4 z4))
     rw [← Kg]
     rw [Kf]
     clear Kg Kf Hb Hd Hc Hm Hn Hg M1
     revert Hv
     revert W6 gz
     revert E0 m0 z0 E1 z1 E2 z2 E3 z3 E4 z4 Ao co
     exact key
    refine wpOp_step (o:=_) rfl (fun KA Hm=>?_)
    go_simp
    have dd:Below W3.heap.size W3 (W3.drew.alloc (Obj.cells zR 30)):=(Below.refl _ _).drew.alloc (Nat.le_refl _) _
    have Hb:S (W3.drew.alloc (Obj.cells zR 30)):=by rw [Hc];exact dd
    refine Hm _ _ ⟨Hb,?_⟩
    (try simp only [Act.put,zp1,zp2,zp3])
    refine alH 4 (by kernel_rfl) (wpOp_step (o:=_) rfl fun KS Hr=>?_)
    go_simp
    refine (HC.out _ dd).mono ?_;rintro en x1 ⟨⟨E0,m0,z0,E1,z1,E2,z2,E3,z3,E4,z4,Ao,co,rfl,He,Hf,Kc⟩,k1⟩
    have nn1:=dd.trans (k1.mono dd.size)
    have M1:=Lib.hid nn1
    have Hg:=Lib.hid (And.intro He Hf)
    have HZ:=Lib.hid ((Blk.new' (w:=W3.drew) (g:=W3.heap.size) (t:=30) (cs:=zR) rfl).same k1)
    have Hb:S x1:=by rw [Hc];exact nn1
    refine Hr _ _ ⟨Hb,?_⟩
    clear Hr nn1 k1 He Hf Kc dd
    (try simp only [Act.put,zp1,zp2,zp3])
    refine tkHs [5,6,7,8] (by kernel_rfl) (fun _ _ _ _ _ h=>h) Hb ?_
    iterate 4
     refine tkc (v:=?_) rfl (Or.inl ⟨by rfl,?_⟩) ?_
     rotate_left
     ·(intro wv Ha;rw [Hc] at Ha;go_simp;(try with_reducible rfl))
     (try simp only [Act.put,zp1,zp2,zp3])
    refine tkz ?_
    refine alH 10 (by kernel_rfl) (wpOp_step (o:=_) rfl fun KB Hn=>?_)
    rw [if_pos (by rfl)]
    refine wp_store_mid 30 (.tmp 19) (.tmp 107) rfl W3.heap.size 0 (rN z E0 m0 z0 E1 z1 E2 z2 E3 z3 E4 z4) rfl rfl (zAs HZ.out) (by kernel_rfl) (all_oneCell_toArray (zBk Hg.out.1)) ?_
    have Hd:S (x1.setCells W3.heap.size 0 (rL z E0 m0 z0 E1 z1 E2 z2 E3 z3 E4 z4)):=by rw [Hc] at Hb ⊢;exact zAl (Nat.le_refl _) _ 0 _ _ Hb
    refine Hn _ _ ⟨Hd,?_⟩
    have Hb:=Hd
    (try simp only [Act.put,zp1,zp2,zp3])
    change wpAnyH _ _ _ _ _ _ _ _ (x1.setCells W3.heap.size 0 (rL z E0 m0 z0 E1 z1 E2 z2 E3 z3 E4 z4))
    refine tkHs [11,12] (by kernel_rfl) (fun _ _ _ _ _ h=>h) Hb ?_
    iterate 2
     refine tkc (v:=?_) rfl (Or.inl ⟨by rfl,?_⟩) ?_
     rotate_left
     ·(intro wv Ha;rw [Hc] at Ha;go_simp;(try with_reducible rfl))
     (try simp only [Act.put,zp1,zp2,zp3])
    refine tkz ?_
    refine wpAnyH_done (by kernel_rfl) ?_ _
    (try simp only [Act.put,zp1,zp2,zp3])
    obtain ⟨gz,Kf⟩:∃ g,W3.heap.size=g:=⟨_,rfl⟩
    obtain ⟨W6,Kg⟩:∃ W,W=x1.setCells W3.heap.size 0 (rL z E0 m0 z0 E1 z1 E2 z2 E3 z3 E4 z4):=⟨_,rfl⟩
    have Hv:Hid (Below W3.heap.size W3 W6∧Blk W6 gz 30 (rN z E0 m0 z0 E1 z1 E2 z2 E3 z3 E4 z4)∧IsRep W6 0 (.slice E0 m0 z0) (.slice E1 z.have_.length z1) (.slice E2 z.wants.length z2) (.slice E3 z.gives.length z3) (.slice E4 z.given.length z4) z∧IsRow 43 8 80 MsgE W6 0 (.slice Ao on.length co) on∧W3.heap.size≤gz):=by rw [Kg,← Kf];have q0:=zBe Hg.out.1 Hg.out.2 M1.out HZ.out (Nat.le_refl _) (Below.refl _ _);exact Lib.hid ⟨q0.1,q0.2.1,q0.2.2.1,q0.2.2.2,(Nat.le_refl _)⟩
    change Exit.then _ _ _ _ (x1.setCells W3.heap.size 0 (rL z E0 m0 z0 E1 z1 E2 z2 E3 z3 E4 z4))
    rw [← Kg]
    rw [Kf]
    clear Kg Kf Hb Hd Hc Hm Hn Hg M1 HZ
    revert Hv
    revert W6 gz
    revert E0 m0 z0 E1 z1 E2 z2 E3 z3 E4 z4 Ao co
    exact key
   case rest2 =>
   intro E0 m0 z0 E1 z1 E2 z2 E3 z3 E4 z4 Ao co gz W6 Hv
   have Rp:=Lib.hid (show RepBox W6 gz z from ⟨_,_,_,_,_,Hv.out.2.1,Hv.out.2.2.1⟩)
   have Kl:=Kk.out.2.trans (Hv.out.1.mono Kk.out.2.size)
   have Nj:=Rn.out.below Hv.out.1
   have Gf:=Lib.hid (And.intro (HK.out.o.same Kl) (And.intro (HK.out.e.below Kl) (HK.out.low.trans (Kl.mono HK.out.low.size))))
   have Hw:∃ a,RepBox W6 ga a:=by obtain ⟨a',Gg,_⟩:=HK.out.a;exact ⟨a',Gg.below Kl⟩
   have Hx:∃ b,RepBox W6 gb b:=by obtain ⟨a',Gg,_⟩:=HK.out.b;exact ⟨a',Gg.below Kl⟩
   obtain ⟨Z0,Zn,Zc0,Z1,Zc1,Z2,Zc2,Z3,Zc3,Z4,Zc4,Nk,Rq,z0,z1,z2,z3,z4,z5,z6,z7,z8,z9⟩:=(Rp.out).get
   rw [Ne.out] at z5
   clear Kk mb0 mb1 mb2 mb3 mb4 mb5 mb6 mb7 x0 x1 x2 x3 x4 x5 x6 x7 x8 x9
   go_upto_region 19 with fail
   rw [← Ne.out] at z5
   obtain ⟨Y0,Yn,Yc0,Y1,Yc1,Y2,Yc2,Y3,Yc3,Y4,Yc4,Nl,Yk,y0,y1,y2,y3,y4,y5,y6,y7,y8,y9⟩:=(Nj).get
   have Rr:=Hv.out.2.2.2.2
   have Rs:=HQ.out.2.2.2.2
   have Rt:=HQ.out.1.size
   have Ru:=HK.out.low.size
   have Rv:=Ri.out
   have Rw:=Rg.out
   have Nm:=Lib.hid (And.intro Nk Nl)
   have Gi:True:=trivial
   obtain ⟨a6,Hw⟩:=Hw
   obtain ⟨b6,Hx⟩:=Hx
   have Nn:=Lib.hid (And.intro Hw Hx)
   clear Nk Nl Hw Hx Nj Gi Kl
   go_wp2_with fail
   obtain ⟨S,Hc⟩:∃ S:World→Prop,S=fun w'=>∀ q:Addr,(q.block=gz ∨ q.block=gq)→w'.cell? q=W6.cell? q:=⟨_,rfl⟩
   have Hb:S W6.drew:=by rw [Hc];exact fun q _=>rfl
   have Yl:gz < W6.heap.size:=Rq
   have nz1:ga≠gz:=by omega
   have nz2:ga≠gq:=by omega
   have nz3:gb≠gz:=by omega
   have nz4:gb≠gq:=by omega
   have Ym:w.heap.size≤ga:=Nq
   refine wp_region_held (S:=S) (by kernel_rfl) ?_
   change wpAnyH _ _ _ _ _ _ _ _ W6.drew
   have Kk:=fun (wv:World) (Ha:∀ q:Addr,(q.block=gz ∨ q.block=gq)→wv.cell? q=W6.cell? q)=>And.intro ((Ha ⟨gz,0,none⟩ (.inl rfl)).trans z0) (And.intro ((Ha ⟨gz,1,none⟩ (.inl rfl)).trans z1) (And.intro ((Ha ⟨gz,2,none⟩ (.inl rfl)).trans z2) (And.intro ((Ha ⟨gz,3,none⟩ (.inl rfl)).trans z3) (And.intro ((Ha ⟨gz,4,none⟩ (.inl rfl)).trans z4) (And.intro ((Ha ⟨gz,5,none⟩ (.inl rfl)).trans z5) (And.intro ((Ha ⟨gz,6,none⟩ (.inl rfl)).trans z6) (And.intro ((Ha ⟨gz,7,none⟩ (.inl rfl)).trans z7) (And.intro ((Ha ⟨gz,8,none⟩ (.inl rfl)).trans z8) ((Ha ⟨gz,9,none⟩ (.inl rfl)).trans z9)))))))))
   refine tkH 0 (v:=?_) rfl (by kernel_rfl) (fun _ _ _ h=>h) (Or.inl ⟨by rfl,?_⟩) Hb ?_
   rotate_left
   ·(intro wv Ha;rw [Hc] at Ha;obtain ⟨s0,s1,s2,s3,s4,s5,s6,s7,s8,s9⟩:=Kk wv Ha;go_simp;(try with_reducible rfl))
   (try simp only [Act.put,zp1,zp2,zp3])
   have Rx:=fun (wv:World) (Ha:∀ q:Addr,(q.block=gz ∨ q.block=gq)→wv.cell? q=W6.cell? q)=>And.intro ((Ha ⟨gq,0,none⟩ (.inr rfl)).trans y0) (And.intro ((Ha ⟨gq,1,none⟩ (.inr rfl)).trans y1) (And.intro ((Ha ⟨gq,2,none⟩ (.inr rfl)).trans y2) (And.intro ((Ha ⟨gq,3,none⟩ (.inr rfl)).trans y3) (And.intro ((Ha ⟨gq,4,none⟩ (.inr rfl)).trans y4) (And.intro ((Ha ⟨gq,5,none⟩ (.inr rfl)).trans y5) (And.intro ((Ha ⟨gq,6,none⟩ (.inr rfl)).trans y6) (And.intro ((Ha ⟨gq,7,none⟩ (.inr rfl)).trans y7) (And.intro ((Ha ⟨gq,8,none⟩ (.inr rfl)).trans y8) ((Ha ⟨gq,9,none⟩ (.inr rfl)).trans y9)))))))))
   refine tkH 1 (v:=?_) rfl (by kernel_rfl) (fun _ _ _ h=>h) (Or.inl ⟨by rfl,?_⟩) Hb ?_
   rotate_left
   ·(intro wv Ha;rw [Hc] at Ha;obtain ⟨t0,t1,t2,t3,t4,t5,t6,t7,t8,t9⟩:=Rx wv Ha;go_simp;(try with_reducible rfl))
   (try simp only [Act.put,zp1,zp2,zp3])
   have No:RepBox W6.drew ga a6:=by obtain ⟨_,_,_,_,_,q1,q2⟩:=Nn.out.1;exact ⟨_,_,_,_,_,q1.drew,q2.below (Below.refl _ _).drew⟩
   have Ry:RepBox W6.drew gb b6:=by obtain ⟨_,_,_,_,_,q1,q2⟩:=Nn.out.2;exact ⟨_,_,_,_,_,q1.drew,q2.below (Below.refl _ _).drew⟩
   have dd:Below W6.heap.size W6 W6.drew:=(Below.refl _ _).drew
   have Np:=Nm.out.1.below dd
   have Rz:=Nm.out.2.below dd
   refine alH 2 (by kernel_rfl) (wpOp_step (o:=_) rfl fun KA Hm=>?_)
   rw [if_pos (by rfl)]
   refine wp_store_mid 30 (.tmp 5) (.tmp 125) rfl ga 0 (rN z Z0 Zn Zc0 Z1 Zc1 Z2 Zc2 Z3 Zc3 Z4 Zc4) rfl rfl (by obtain ⟨_,_,_,_,_,q1,_⟩:=No;exact zAs q1) (by kernel_rfl) (all_oneCell_toArray (zBk Np)) ?_
   have Hd:S (W6.drew.setCells ga 0 (rL z Z0 Zn Zc0 Z1 Zc1 Z2 Zc2 Z3 Zc3 Z4 Zc4)):=by rw [Hc] at Hb ⊢;exact fun q hq=>(zBt (by rcases hq with h | h <;> omega) _ 0 _).trans (Hb q hq)
   refine Hm _ _ ⟨Hd,?_⟩
   have Hb:=Hd
   (try simp only [Act.put,zp1,zp2,zp3])
   obtain ⟨W7,Vr⟩:∃ W,W=W6.drew.setCells ga 0 (rL z Z0 Zn Zc0 Z1 Zc1 Z2 Zc2 Z3 Zc3 Z4 Zc4):=⟨_,rfl⟩
   have q1:RepBox W7 ga z∧Same [9,3,4,25,43] 0 W6.drew W7∧∀ g' r',g'≠ga→RepBox W6.drew g' r'→RepBox W7 g' r':=by rw [Vr];exact zCf No Np
   have q5:Below w.heap.size w W7:=by rw [Vr];exact zAl (by omega) _ 0 _ _ Gf.out.2.2.drew
   change wpAnyH _ _ _ _ _ _ _ _ (W6.drew.setCells ga 0 (rL z Z0 Zn Zc0 Z1 Zc1 Z2 Zc2 Z3 Zc3 Z4 Zc4))
   rw [← Vr] at Hb ⊢
   clear Vr Hd Hm
   have Gj:=q1.2.2 _ _ (by omega) Ry
   have Gk:=Rz.same (q1.2.1.mono (by simp) (Nat.le_refl _))
   refine alH 3 (by kernel_rfl) (wpOp_step (o:=_) rfl fun KB Hn=>?_)
   rw [if_pos (by rfl)]
   refine wp_store_mid 30 (.tmp 8) (.tmp 126) rfl gb 0 (rN y Y0 Yn Yc0 Y1 Yc1 Y2 Yc2 Y3 Yc3 Y4 Yc4) rfl rfl (by obtain ⟨_,_,_,_,_,q1,_⟩:=Gj;exact zAs q1) (by kernel_rfl) (all_oneCell_toArray (zBk Gk)) ?_
   have Hd:S (W7.setCells gb 0 (rL y Y0 Yn Yc0 Y1 Yc1 Y2 Yc2 Y3 Yc3 Y4 Yc4)):=by rw [Hc] at Hb ⊢;exact fun q hq=>(zBt (by rcases hq with h | h <;> omega) _ 0 _).trans (Hb q hq)
   refine Hn _ _ ⟨Hd,?_⟩
   have Hb:=Hd
   (try simp only [Act.put,zp1,zp2,zp3])
   refine wpAnyH_done (by kernel_rfl) ?_ _
   (try simp only [Act.put,zp1,zp2,zp3])
   obtain ⟨W9,Vs⟩:∃ W,W=W7.setCells gb 0 (rL y Y0 Yn Yc0 Y1 Yc1 Y2 Yc2 Y3 Yc3 Y4 Yc4):=⟨_,rfl⟩
   have q2:RepBox W9 gb y∧Same [9,3,4,25,43] 0 W7 W9∧∀ g' r',g'≠gb→RepBox W7 g' r'→RepBox W9 g' r':=by rw [Vs];exact zCf Gj Gk
   have q6:Below w.heap.size w W9:=by rw [Vs];exact zAl (by omega) _ 0 _ _ q5
   change Exit.inBlock _ _ _ _ (W7.setCells gb 0 (rL y Y0 Yn Yc0 Y1 Yc1 Y2 Yc2 Y3 Yc3 Y4 Yc4))
   rw [← Vs]
   have q3:=q2.2.2 _ _ (by omega) q1.1
   have Va:Hid (RepBox W9 ga z∧RepBox W9 gb y∧Same [9,3,4,25,43] 0 W6 W9∧Below w.heap.size w W9):=Lib.hid ⟨q3,q2.1,((Same.drew W6).trans q1.2.1).trans q2.2.1,q6⟩
   clear Vs q1 q2 q3 q5 q6 Gj Gk Hb Hd Hn
   have Vb:=Lib.hid (show LeadW w W9 ga go gb j (some ⟨ge,oe,none⟩) ce es (k+1) from ⟨⟨z,Va.out.1,by rw [Nf.out];exact HZ.out.2⟩,⟨y,Va.out.2.1,by rw [Nf.out];exact HY.out.2⟩,zAd Gf.out.1 Va.out.2.2.1 (by simp),Gf.out.2.1.same (by simp) Va.out.2.2.1,Va.out.2.2.2⟩)
   go_wp2_with fail
   go_roundw
   case rel=>first | exact ⟨k+1,by omega,rfl,Vb⟩ | ((repeat apply Exists.intro);exact ⟨⟨k+1,by omega,rfl,Vb⟩,rfl⟩)
   case measure=>first | (simp only [intOf];omega) | (simp [intOf];omega)
  have Ya:k=es.length:=by omega
  have Vx:¬ (k:Int) < (es.length:Int):=by omega
  have HF:=Lib.hid HK.out.low
  go_wp2
  go_ret
  exact ⟨rfl,HF.out⟩
theorem lawLeadersLead_w (v:Value) (l:List Scu.Raw) {w:World} (h:IsRaws w w.heap.size v l) (n:Int) (hc:(Lit.int .i64 n).wf=true) (W:World) (hW:W=w) (ht:Tab W) :
 Calls Tryd.prog 3 #[v,.int .i64 n] W fun e w'=>e=.returned (.bool true)∧Below W.heap.size W w':=by
 subst hW
 exact lawLeadersLead_c v l n (zEo hc) W h ht
end Go.Proofs.YtjnjhmkgfjikfaaDoor
namespace Go.Proofs.YtjnjhmkgfjikfaaDoor.leadersLeadDone
open Go.ChangeShapes Go.WideShapes Go.ChangeAt Go.RowKit
open Go.ChangeMaps (open_string shut_string)
theorem own : ownKnob Tryd.prog.godebug = none := by kernel_rfl
theorem laidOut : laidOutB Tryd.prog = true := by kernel_rfl
set_option maxRecDepth 100000 in
theorem lifted (os : Os) (started : os.Started) (H : Type) (enc : TypeId × Value → H) :
    ReturnsInHanded {} Tryd.checked os 3 .any (fun w args => (Rows.leadersLeadSpec.pre enc Tryd.prog Tryd.f3 [] false w args ∧ laidMetH Tryd.prog Rows.leadersLeadRow.laid w) ∧ sizedMet enc Tryd.prog Tryd.f3 (OpenSpec.ofChange Rows.leadersLeadSpec) false w args)
      (Rows.leadersLeadSpec.post enc Tryd.prog Tryd.f3 false true false false) := by
  refine returnsInHanded_of_change_and (C := Tryd.checked) (X := fun w _ => laidMetH Tryd.prog Rows.leadersLeadRow.laid w) (fun _ _ _ hh h => h.of_heap hh) own started (by kernel_rfl) Tryd.func3
    (ChangeSpec.witness_shaped (enc := enc) (C := Tryd.checked) (os := os) (X := fun w _ => laidMetH Tryd.prog Rows.leadersLeadRow.laid w) false (World.doorLaid Tryd.prog doorFuel os) #[.slice none 0 0, .int .i64 0] 8 rfl (zEh os _) (by kernel_rfl) (by kernel_rfl) (by kernel_rfl) (zGy os _)) ?_
  intro W base args ds gs before hval0 hW _ hsz hL _
  have htab := zKx hL
  have hwt0 : ∀ (j : Nat) (t : TypeId) (d : DataW H), (Tryd.f3.params.toList ++ Rows.leadersLeadSpec.plain.varTypes Tryd.prog)[j]? = some t → (ds ++ gs)[j]? = some d → ∀ k ∈ d.weights Tryd.prog t, k ≤ reachBytes := fun j t d ht hd k hk => by
    have := List.all_eq_true.1 hsz k (DataW.weights_mem_each ht hd k hk)
    simpa using this
  clear hsz hL
  have hwt := hwt0
  rw [Tryd.params3] at hwt
  have hval : ∀ (j : Nat) t v, Tryd.f3.params[j]? = some t → args[j]? = some v → Value.okWide Tryd.prog W .any base t v := hval0
  have hW' := hW
  obtain ⟨p, q, hA0, hV, rfl, hfz, hnd⟩ := hW
  have hA : DataW.TrodAll enc Tryd.prog W 0 (fun _ => true) true Tryd.f3.params.toList args.toList ds p := hA0
  rw [Tryd.params3] at hA hval
  obtain ⟨v0, vs0, d0, ds0, p0, q0, hargs, rfl, rfl, h0, r0⟩ := trodAll_cons hA
  obtain ⟨v1, vs1, d1, ds1, p1, q1, rfl, rfl, rfl, h1, r1⟩ := trodAll_cons r0
  obtain ⟨rfl, rfl, rfl⟩ := trodAll_nil r1
  obtain rfl : args = #[v0, v1] := by cases args; simp_all
  obtain ⟨rfl, rfl⟩ := trodVars_none hV
  have k0 := h0
  have lt0 : ∀ x ∈ p0, x.block < W.heap.size := by obtain ⟨m, hm⟩ := k0; exact DataW.trod_lt m _ _ _ hm
  obtain ⟨a0, w0⟩ := zEp (hval 0 22 v0 rfl rfl) h0 (hwt 0 22 d0 rfl rfl)
  have k1 := h1
  have lt1 : ∀ x ∈ p1, x.block < W.heap.size := by obtain ⟨m, hm⟩ := k1; exact DataW.trod_lt m _ _ _ hm
  obtain ⟨a1, hv1, hd1, hp1, w1⟩ := open_int Tryd.underlying3 (hval 1 3 v1 rfl rfl) h1
  subst hv1
  clear hA0 hval0
  refine (lawLeadersLead_w v0 a0 w0 a1 w1 W rfl htab).mono fun e W' ⟨he, bel⟩ => ?_
  subst he
  exact ⟨_, rfl, _, _, _, [], _, [], hW', trodAll_mk1 (shut_bool Tryd.underlying4 _), (trodAll_cons_mk (Below.trod laidOut (by kernel_rfl) (of_decide_eq_true (by kernel_rfl)) k0 bel lt0) (trodAll_cons_mk (Below.trod laidOut (by kernel_rfl) (of_decide_eq_true (by kernel_rfl)) k1 bel lt1) trodAll_mk0)), rfl, bel.frame _, fun h => by cases h⟩
theorem over : Rows.LeadersLeadSaid :=
  OpenClaim.holds_of_wide 3 Tryd.f3 rfl rfl rfl rfl rfl rfl rfl ⟨rfl, rfl, rfl, rfl, rfl⟩ rfl rfl rfl rfl rfl (by kernel_rfl) Tryd.func3 (zGm rfl rfl rfl rfl rfl rfl (by as_aux_lemma => kernel_rfl) (by as_aux_lemma => kernel_rfl) (by as_aux_lemma => kernel_rfl) (by as_aux_lemma => kernel_rfl) (by as_aux_lemma => kernel_rfl) (by as_aux_lemma => kernel_rfl) (by as_aux_lemma => kernel_rfl))
    (of_decide_eq_true (by kernel_rfl)) (by unfold Func.isWrapper; first | (rw [if_pos (by decide +kernel)]; kernel_rfl) | (rw [if_neg (by decide +kernel)]; exact ⟨rfl, rfl⟩))
    (fun os started H enc _ => lifted os started H enc)
theorem proved : Rows.LeadersLeadCardSaid :=
  Claim7.holds_tied_plain_at .later [] [.data, .data, .data] true Rows.leadersLeadCard.stood.harness false
    over (fun _ h => by cases h) (by kernel_rfl) (fun _ h => by cases h) leadersLead_row_tie rfl ⟨rfl, rfl⟩ (by kernel_rfl) rfl
    (fun f fn hf hfn => by
      obtain rfl : f = 3 := Option.some.inj ((show Tryd.prog.funcNamed Rows.leadersLeadRow.func = some 3 by kernel_rfl).symm.trans hf) |>.symm
      obtain rfl : fn = Tryd.f3 := (Option.some.inj (Tryd.func3.symm.trans hfn)).symm
      exact ⟨by kernel_rfl, fun j t ht => by
        rw [Tryd.params3] at ht
        have hm : t ∈ [22, 3] := by simpa using Array.mem_of_getElem? ht
        have hall : ([22, 3].all fun u => !Tryd.prog.wantsStandIn u) = true := by kernel_rfl
        exact (show Tryd.prog.wantsStandIn t = false by simpa using List.all_eq_true.1 hall t hm)⟩)
    (by kernel_rfl)
end Go.Proofs.YtjnjhmkgfjikfaaDoor.leadersLeadDone
