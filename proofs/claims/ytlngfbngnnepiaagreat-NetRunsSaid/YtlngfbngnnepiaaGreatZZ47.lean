/- Part 47: words and walks under the laws of the whole. -/
import Derived.Test.YtlngfbngnnepiaaGreatZZ37
set_option linter.unusedVariables false
set_option linter.unusedSimpArgs false
set_option maxHeartbeats 4000000
set_option maxRecDepth 100000
namespace Go.Proofs.YtlngfbngnnepiaaGreat
open Go.RowKit
theorem zPl {w:World} {B:Nat} {A:Option Addr} {css:List (List Value)} {ms:List Scu.Message} {k:Nat} (hl:css.length=ms.length) (hm:∀ cs ∈ css,cs.length=8) (h:Rd w B 99 A css.flatten)
 (h6:∀ (j:Nat) (cs:List Value) (x:Scu.Message),css[j]? = some cs->ms[j]? = some x->MsgE w B cs x) (hk:k < ms.length) :
 ∃ g o lv,A=some ⟨g,o,none⟩/\g < w.heap.size/\w.cell? ⟨g,o+k*8,none⟩=some (.int .i64 ms[k].kind)/\w.cell? ⟨g,o+k*8+1,none⟩=some (.int .i64 ms[k].from_)/\w.cell? ⟨g,o+k*8+2,none⟩=some (.int .i64 ms[k].tq) /\
  w.cell? ⟨g,o+k*8+3,none⟩=some (.int .i64 ms[k].view)/\w.cell? ⟨g,o+k*8+4,none⟩=some (.int .i64 ms[k].normal)/\w.cell? ⟨g,o+k*8+5,none⟩=some (.int .i64 ms[k].commit)/\w.cell? ⟨g,o+k*8+6,none⟩=some (.int .i64 ms[k].n) /\
  w.cell? ⟨g,o+k*8+7,none⟩=some lv/\IsStrs w B lv ms[k].log:=by
 obtain ⟨g,o,cs,h1,h2,_,h4,lv,rfl,h5⟩:=zHq hl hm (by omega) h h6 hk;exact ⟨g,o,lv,h1,h2,h4 0 _ rfl,by rw [Nat.add_assoc];exact h4 1 _ rfl,by rw [Nat.add_assoc];exact h4 2 _ rfl,by rw [Nat.add_assoc];exact h4 3 _ rfl,by rw [Nat.add_assoc];exact h4 4 _ rfl,by rw [Nat.add_assoc];exact h4 5 _ rfl,by rw [Nat.add_assoc];exact h4 6 _ rfl,
  by rw [Nat.add_assoc];exact h4 7 _ rfl,h5⟩
theorem zQr (v u:Value) (ms:List Scu.Message) (w:World) (B B':Nat) (hv:IsRow 99 8 80 MsgE w B v ms) (hu:IsRow 99 8 80 MsgE w B' u ms) :
 Calls Tryz.prog 17 #[v,u] w fun e w'=>e=.returned (.bool true)/\Below w.heap.size w w':=by
 obtain ⟨⟨A,c,css,rfl,_,h1,h2,h3,h4⟩,hl⟩:=hv;obtain ⟨⟨A',c',css',rfl,_,j1,j2,j3,j4⟩,_⟩:=hu;have HV:=mA (mB h1 (mB h2 (mB h3 h4)));have HU:=mA (mB j1 (mB j2 (mB j3 j4)));have Hd:ms.length<=140737488351232:=by
  have e:R47=140737488351232:=rfl;omega
 clear h1 h2 h3 h4 j1 j2 j3 j4 hl;go_enter Tryz.func17,Tryz.ntmps17
 go_wp2_with fail
 go_loopw [5] (fun i wr=>∃ k:Nat,k<=ms.length/\i=.int .i64 k/\Below w.heap.size w wr) (fun i _=>ms.length - (intOf i).toNat)
 case atStart=>exact ⟨0,mE _,rfl,mG _ _⟩
 case round =>
  obtain ⟨k,hk,rfl,hb⟩:=hrel;by_cases Ha:k < ms.length
  ·have Hc:(k:Int) < (ms.length:Int):=by omega
   obtain ⟨g,o,lv,rfl,hg,a0,a1,a2,a3,a4,a5,a6,a7,hs⟩:=zPl (k:=k) HV.out.1 HV.out.2.1 (HV.out.2.2.1.below hb) (fun j cs x a b=>(HV.out.2.2.2 j cs x a b).same (Ts:=[9]) (by simp) (Same.below hb)) Ha;obtain ⟨g',o',lv',rfl,He,b0,b1,b2,b3,b4,b5,b6,b7,Hb⟩:=zPl (k:=k) HU.out.1 HU.out.2.1 (HU.out.2.2.1.below hb) (fun j cs x a b=>(HU.out.2.2.2 j cs x a b).same (Ts:=[9]) (by simp) (Same.below hb)) Ha;obtain ⟨Al,nl,cl,rfl⟩:=hs.form;obtain ⟨Am,nm,cm,rfl⟩:=Hb.form;have HS:=mA (mB hs Hb);have HB:=mA hb;clear hs Hb hb;go_wp2_with fail
   refine (zJb _ _ ms[k].log ms[k].log _ B B' ((HS.out.1.alloc _).alloc _) ((HS.out.2.alloc _).alloc _)).mono ?_;rintro en w2 ⟨rfl,n,rfl⟩;simp only [decide_true]
   go_wp2
   exact ⟨⟨k+1,Ha,by go_num,below_drewN ((HB.out.alloc HB.out.size _).alloc (by have:=HB.out.size;simp;omega) _) n⟩,by simp only [intOf];omega⟩
  have Hf:(ms.length:Int)<=(k:Int):=by omega
  go_wp2
  go_ret
  exact ⟨rfl,hb⟩
theorem zVo (a:Scu.Customer) (W:World):(binOp .neq 55 (.agg #[.int .i64 a.id,.int .i64 a.next,.int .i64 a.wait.client,.int .i64 a.wait.num,.int .i64 a.wait.op.kind,.int .i64 a.wait.op.at_,.int .i64 a.wait.op.snap,.string a.wait.op.data]) (.agg #[.int .i64 a.id,.int .i64 a.next,.int .i64 a.wait.client,.int .i64 a.wait.num,.int .i64 a.wait.op.kind,.int .i64 a.wait.op.at_,.int .i64 a.wait.op.snap,.string a.wait.op.data])).run Tryz.prog W=.ok (.bool false) W:=by
 simp [go_sem]
theorem zVp (a:Scu.Told) (W:World):(binOp .neq 71 (.agg #[.int .i64 a.request.client,.int .i64 a.request.num,.int .i64 a.request.op.kind,.int .i64 a.request.op.at_,.int .i64 a.request.op.snap,.string a.request.op.data,.int .i64 a.reply.code,.int .i64 a.reply.n,.string a.reply.data]) (.agg #[.int .i64 a.request.client,.int .i64 a.request.num,.int .i64 a.request.op.kind,.int .i64 a.request.op.at_,.int .i64 a.request.op.snap,.string a.request.op.data,.int .i64 a.reply.code,.int .i64 a.reply.n,.string a.reply.data])).run Tryz.prog W=.ok (.bool false) W:=by
 simp [go_sem]
theorem IsRow.fm {α:Type} {t:TypeId} {m bytes:Nat} {El:World->Nat->List Value->α->Prop} {w:World} {B:Nat} {v:Value} {xs:List α} (h:IsRow t m bytes El w B v xs):∃ A c,v=.slice A xs.length c:=let ⟨A,c,_,e,_⟩:=h.ex;⟨A,c,e⟩
theorem IsOnes.fm {α:Type} {t:TypeId} {bytes:Nat} {f:α->Value} {w:World} {B:Nat} {v:Value} {xs:List α} (h:IsOnes t bytes f w B v xs):∃ A c,v=.slice A xs.length c:=let ⟨A,c,e,_⟩:=h.ex;⟨A,c,e⟩
theorem IsRow.get {α:Type} {t:TypeId} {m bytes:Nat} {El:World->Nat->List Value->α->Prop} {w:World} {B:Nat} {A:Option Addr} {n c:Nat} {xs:List α} (h:IsRow t m bytes El w B (.slice A n c) xs) (hm:0 < m) {k:Nat} (hk:k < xs.length) :
 ∃ g o cs,A=some ⟨g,o,none⟩/\g < w.heap.size/\w.rangeAt g (o+k*m) cs/\El w B cs xs[k]:=by
 obtain ⟨A',c',css,e,_,h1,h2,h3,h4⟩:=h.ex;cases e
 obtain ⟨g,o,cs,e,hg,_,hc,hx⟩:=zHq h1 h2 hm h3 h4 hk;exact ⟨g,o,cs,e,hg,fun j u hj=>by rw [Nat.add_assoc];exact hc j u hj,hx⟩
theorem OutW.forms {w:World} {rv sv fv cv tv ov:Value} {o:Scu.Outcome} (h:OutW w rv sv fv cv tv ov o):∃ A0 c0 A1 c1 A2 c2 A3 c3 A4 c4 A5 c5,rv=.slice A0 o.replicas.length c0/\sv=.slice A1 o.slots.length c1/\fv=.slice A2 o.flying.length c2/\cv=.slice A3 o.clients.length c3/\tv=.slice A4 o.told.length c4/\ov=.slice A5 o.codes.length c5:=by
 obtain ⟨_,_,h0⟩:=h.reps.fm;obtain ⟨_,_,h1⟩:=h.slots.fm;obtain ⟨_,_,h2⟩:=h.fly.fm;obtain ⟨_,_,h3⟩:=h.cust.fm;obtain ⟨_,_,h4⟩:=h.told.fm;obtain ⟨_,_,h5⟩:=h.codes.fm;exact ⟨_,_,_,_,_,_,_,_,_,_,_,_,h0,h1,h2,h3,h4,h5⟩
structure SmS (w W:World) (rv sv fv cv tv ov rv' sv' fv' cv' tv' ov':Value) (o:Scu.Outcome):Prop where
 x:OutW W rv sv fv cv tv ov o
 y:OutW W rv' sv' fv' cv' tv' ov' o
 a:Blk W w.heap.size 30 #[rv,sv,fv,cv,tv,ov]
 b:Blk W (w.heap.size+1) 30 #[rv',sv',fv',cv',tv',ov']
 l:Below w.heap.size w W
theorem SmS.below {w W W':World} {rv sv fv cv tv ov rv' sv' fv' cv' tv' ov':Value} {o:Scu.Outcome} (h:SmS w W rv sv fv cv tv ov rv' sv' fv' cv' tv' ov' o) (hb:Below W.heap.size W W'):SmS w W' rv sv fv cv tv ov rv' sv' fv' cv' tv' ov' o:=⟨h.x.below hb,h.y.below hb,h.a.same hb,h.b.same hb,h.l.trans (hb.mono h.l.size)⟩
theorem zI6 {P:Prop} (h:P:=by
 go_wp2_with fail
 go_quiet (fail)
 go_wp2_with fail
 exact ⟨⟨k+1,Ha,by go_num,mA (HS.out.below (below_drewN (mG _ _) nq))⟩,by simp only [intOf];omega⟩):P:=h
theorem zJ6 {P:Prop} (h:P:=by
 refine tkz (fun Hk=>?_);refine zAe (by kernel_rfl) ?_ _;change Exit.then _ _ _ _ x1;go_wp2_with fail
 exact ⟨⟨k+1,Ha,by go_num,mA (HS.out.below Hf)⟩,by simp only [intOf];omega⟩):P:=h
theorem zSu (rv sv fv cv tv ov rv' sv' fv' cv' tv' ov':Value) (o:Scu.Outcome) (w:World) (hx:OutW w rv sv fv cv tv ov o) (hy:OutW w rv' sv' fv' cv' tv' ov' o) :
 Calls Tryz.prog 6 #[.agg #[rv,sv,fv,cv,tv,ov],.agg #[rv',sv',fv',cv',tv',ov']] w fun e w'=>e=.returned (.bool true)/\Below w.heap.size w w':=by
 obtain ⟨A0,c0,A1,c1,A2,c2,A3,c3,A4,c4,A5,c5,rfl,rfl,rfl,rfl,rfl,rfl⟩:=hx.forms;obtain ⟨E0,d0,E1,d1,E2,d2,E3,d3,E4,d4,E5,d5,rfl,rfl,rfl,rfl,rfl,rfl⟩:=hy.forms;have Hl:Below w.heap.size w ((w.alloc (.cells #[.slice A0 o.replicas.length c0,.slice A1 o.slots.length c1,.slice A2 o.flying.length c2,.slice A3 o.clients.length c3,.slice A4 o.told.length c4,.slice A5 o.codes.length c5] 30)).alloc (.cells #[.slice E0 o.replicas.length d0,.slice E1 o.slots.length d1,.slice E2 o.flying.length d2,.slice E3 o.clients.length d3,.slice E4 o.told.length d4,.slice E5 o.codes.length d5] 30)):=(zAa w _).alloc (by simp) _;have HS:=mA (show SmS w ((w.alloc (.cells #[.slice A0 o.replicas.length c0,.slice A1 o.slots.length c1,.slice A2 o.flying.length c2,.slice A3 o.clients.length c3,.slice A4 o.told.length c4,.slice A5 o.codes.length c5] 30)).alloc (.cells #[.slice E0 o.replicas.length d0,.slice E1 o.slots.length d1,.slice E2 o.flying.length d2,.slice E3 o.clients.length d3,.slice E4 o.told.length d4,.slice E5 o.codes.length d5] 30)) _ _ _ _ _ _ _ _ _ _ _ _ o from ⟨hx.below Hl,hy.below Hl,(Blk.new w _ _).alloc _,Blk.new' (by simp),Hl⟩);clear hx hy Hl;go_enter Tryz.func6,Tryz.ntmps6
 go_wp2_with fail
 refine (zQr _ _ o.flying _ 0 0 HS.out.x.fly HS.out.y.fly).mono ?_;rintro e w1 ⟨rfl,h1⟩;have HS:=mA (HS.out.below h1);obtain ⟨p0,p1,p2,p3,p4,p5⟩:=cz6 HS.out.a;obtain ⟨q0,q1,q2,q3,q4,q5⟩:=cz6 HS.out.b;have pl:=HS.out.a.lt;have ql:=HS.out.b.lt;clear h1;go_wp2_with fail
 clear p0 p1 p2 p3 p4 p5 q0 q1 q2 q3 q4 q5 pl ql;go_loopw [5] (fun i wr=>∃ k:Nat,k<=o.replicas.length/\i=.int .i64 k/\Hid (SmS w wr _ _ _ _ _ _ _ _ _ _ _ _ o)) (fun i _=>o.replicas.length - (intOf i).toNat)
 case atStart=>exact ⟨0,mE _,rfl,HS⟩
 case round =>
 clear HS;obtain ⟨k,hk,rfl,HS⟩:=hrel;have hm:o.replicas.length < 140737488355328:=by have:=HS.out.x.reps.len;unfold R47 at this;omega
 obtain ⟨p0,p1,p2,p3,p4,p5⟩:=cz6 HS.out.a;obtain ⟨q0,q1,q2,q3,q4,q5⟩:=cz6 HS.out.b;have pl:=HS.out.a.lt;have ql:=HS.out.b.lt;by_cases Ha:k < o.replicas.length
 ·have Hb:(k:Int) < (o.replicas.length:Int):=by omega
  obtain ⟨g,oo,cs,rfl,hg,hc,he⟩:=HS.out.x.reps.get (by decide) Ha;obtain ⟨g',oo',cs',rfl,Hj,Hc,Hg⟩:=HS.out.y.reps.get (by decide) Ha;obtain ⟨lu,hv,wv,gv,nv,rfl,hi⟩:=he;obtain ⟨lu',Hp,wv',gv',nv',rfl,Hh⟩:=Hg;obtain ⟨F0,m0,x0,F1,x1,F2,x2,F3,x3,F4,x4,rfl,rfl,rfl,rfl,rfl⟩:=hi.forms;obtain ⟨G0,n0,y0,G1,y1,G2,y2,G3,y3,G4,y4,rfl,rfl,rfl,rfl,rfl⟩:=Hh.forms;have HI:=mA (mB hi Hh);have HR:=mA (mB hc Hc);clear hi Hh hc Hc;go_wp2_with fail
  have He:Below wr.heap.size wr wr.drew:=(mG _ _).drew;refine rgF (Below wr.heap.size wr) [] [0,1,2,3,4,5,6,7,8,9] He ?_;iterate 10
   (refine tkc (v:=?_) rfl (Or.inl ⟨by rfl,?_⟩) ?_;rotate_left;(intro wv Hd;(obtain ⟨p0,p1,p2,p3,p4,p5⟩:=cz6 (HS.out.a.same Hd);obtain ⟨q0,q1,q2,q3,q4,q5⟩:=cz6 (HS.out.b.same Hd);obtain ⟨r0,r1,r2,r3,r4,r5,r6,r7,r8,r9⟩:=rg10 (rgb Hd hg HR.out.1);obtain ⟨s0,s1,s2,s3,s4,s5,s6,s7,s8,s9⟩:=rg10 (rgb Hd Hj HR.out.2));go_simp;with_reducible rfl);(try simp only [Act.put,zp1,zp2,zp3]))
  refine tkz (fun Hk=>?_);refine alF 10 (fun KA Hm=>?_);go_simp;refine (zRp F0 m0 x0 F1 x1 F2 x2 F3 x3 F4 x4 G0 n0 y0 G1 y1 G2 y2 G3 y3 G4 y4 o.replicas[k] wr.drew 0 0 (HI.out.1.below He) (HI.out.2.below He)).mono ?_;rintro en x1 ⟨rfl,k1⟩;have Hf:=He.trans k1;refine Hm _ _ ⟨.inr Hf,?_⟩;refine puT ?_;refine tkFs 16 [11] Hf (shF Hk 10) ?_;iterate 1
   (refine tkc (v:=?_) rfl (Or.inl ⟨by rfl,?_⟩) ?_;rotate_left;(intro wv Hd;skip;go_simp;with_reducible rfl);(try simp only [Act.put,zp1,zp2,zp3]))
  exact zJ6
 have Hb:(o.replicas.length:Int)<=(k:Int):=by omega
 obtain ⟨wa,Hi⟩:=mJ (wr);subst Hi;clear hm hk;go_wp2_with fail
 clear p0 p1 p2 p3 p4 p5 q0 q1 q2 q3 q4 q5 pl ql;go_loopw [6] (fun i wr=>∃ k:Nat,k<=o.slots.length/\i=.int .i64 k/\Hid (SmS w wr _ _ _ _ _ _ _ _ _ _ _ _ o)) (fun i _=>o.slots.length - (intOf i).toNat)
 case atStart=>exact ⟨0,mE _,rfl,HS⟩
 case round =>
 clear HS;obtain ⟨k,hk,rfl,HS⟩:=hrel;have hm:o.slots.length < 140737488355328:=by have:=HS.out.x.slots.len;unfold R47 at this;omega
 obtain ⟨p0,p1,p2,p3,p4,p5⟩:=cz6 HS.out.a;obtain ⟨q0,q1,q2,q3,q4,q5⟩:=cz6 HS.out.b;have pl:=HS.out.a.lt;have ql:=HS.out.b.lt;by_cases Ha:k < o.slots.length
 ·have Hb:(k:Int) < (o.slots.length:Int):=by omega
  obtain ⟨g,oo,cs,rfl,hg,hc,he⟩:=HS.out.x.slots.get (by decide) Ha;obtain ⟨g',oo',cs',rfl,Hj,Hc,Hg⟩:=HS.out.y.slots.get (by decide) Ha;obtain ⟨u,rfl,hi⟩:=he;obtain ⟨u',rfl,Hh⟩:=Hg;obtain ⟨F0,m0,x0,rfl⟩:=hi.form;obtain ⟨G0,n0,y0,rfl⟩:=Hh.form;have HI:=mA (mB hi Hh);have hc:=hc 0 _ rfl;have Hc:=Hc 0 _ rfl;rw [Nat.mul_one,Nat.add_zero] at hc Hc;clear hi Hh;go_wp2_with fail
  have He:Below wr.heap.size wr wr.drew:=(mG _ _).drew;refine rgF (Below wr.heap.size wr) [] [0,1,2,3,4,5,6,7,8,9] He ?_;iterate 10
   (refine tkc (v:=?_) rfl (Or.inl ⟨by rfl,?_⟩) ?_;rotate_left;(intro wv Hd;(obtain ⟨p0,p1,p2,p3,p4,p5⟩:=cz6 (HS.out.a.same Hd);obtain ⟨q0,q1,q2,q3,q4,q5⟩:=cz6 (HS.out.b.same Hd);have r0:=cW Hd hg hc;have s0:=cW Hd Hj Hc);go_simp;with_reducible rfl);(try simp only [Act.put,zp1,zp2,zp3]))
  refine tkz (fun Hk=>?_);refine alF 10 (fun KA Hm=>?_);go_simp;refine (zJb (.slice F0 m0 x0) (.slice G0 n0 y0) o.slots[k] o.slots[k] wr.drew 0 0 (HI.out.1.below He) (HI.out.2.below He)).mono ?_;rintro en x1 ⟨rfl,n1,rfl⟩;simp only [decide_true]
  have Hf:=below_drewN He n1;obtain ⟨x1,Hn⟩:=mJ (wr.drew.drewN n1);rw [<- Hn] at Hf ⊢;clear Hn;refine Hm _ _ ⟨.inr Hf,?_⟩;refine puT ?_;refine tkFs 16 [11] Hf (shF Hk 10) ?_;iterate 1
   (refine tkc (v:=?_) rfl (Or.inl ⟨by rfl,?_⟩) ?_;rotate_left;(intro wv Hd;skip;go_simp;with_reducible rfl);(try simp only [Act.put,zp1,zp2,zp3]))
  exact zJ6
 have Hb:(o.slots.length:Int)<=(k:Int):=by omega
 obtain ⟨wa,Hi⟩:=mJ (wr);subst Hi;clear hm hk;go_wp2_with fail
 clear p0 p1 p2 p3 p4 p5 q0 q1 q2 q3 q4 q5 pl ql;go_loopw [7] (fun i wr=>∃ k:Nat,k<=o.clients.length/\i=.int .i64 k/\Hid (SmS w wr _ _ _ _ _ _ _ _ _ _ _ _ o)) (fun i _=>o.clients.length - (intOf i).toNat)
 case atStart=>exact ⟨0,mE _,rfl,HS⟩
 case round =>
 clear HS;obtain ⟨k,hk,rfl,HS⟩:=hrel;have hm:o.clients.length < 140737488355328:=by have:=HS.out.x.cust.len;unfold R47 at this;omega
 obtain ⟨p0,p1,p2,p3,p4,p5⟩:=cz6 HS.out.a;obtain ⟨q0,q1,q2,q3,q4,q5⟩:=cz6 HS.out.b;have pl:=HS.out.a.lt;have ql:=HS.out.b.lt;by_cases Ha:k < o.clients.length
 ·have Hb:(k:Int) < (o.clients.length:Int):=by omega
  obtain ⟨g,oo,cs,rfl,hg,hc,he⟩:=HS.out.x.cust.get (by decide) Ha;obtain ⟨g',oo',cs',rfl,Hj,Hc,Hg⟩:=HS.out.y.cust.get (by decide) Ha;cases he
  cases Hg
  have hq:=zVo o.clients[k];obtain ⟨r0,r1,r2,r3,r4,r5,r6,r7⟩:=rg8 hc;obtain ⟨s0,s1,s2,s3,s4,s5,s6,s7⟩:=rg8 Hc;clear hc Hc;exact zI6
 have Hb:(o.clients.length:Int)<=(k:Int):=by omega
 obtain ⟨wa,Hi⟩:=mJ (wr);subst Hi;clear hm hk;go_wp2_with fail
 clear p0 p1 p2 p3 p4 p5 q0 q1 q2 q3 q4 q5 pl ql;go_loopw [8] (fun i wr=>∃ k:Nat,k<=o.told.length/\i=.int .i64 k/\Hid (SmS w wr _ _ _ _ _ _ _ _ _ _ _ _ o)) (fun i _=>o.told.length - (intOf i).toNat)
 case atStart=>exact ⟨0,mE _,rfl,HS⟩
 case round =>
 clear HS;obtain ⟨k,hk,rfl,HS⟩:=hrel;have hm:o.told.length < 140737488355328:=by have:=HS.out.x.told.len;unfold R47 at this;omega
 obtain ⟨p0,p1,p2,p3,p4,p5⟩:=cz6 HS.out.a;obtain ⟨q0,q1,q2,q3,q4,q5⟩:=cz6 HS.out.b;have pl:=HS.out.a.lt;have ql:=HS.out.b.lt;by_cases Ha:k < o.told.length
 ·have Hb:(k:Int) < (o.told.length:Int):=by omega
  obtain ⟨g,oo,cs,rfl,hg,hc,he⟩:=HS.out.x.told.get (by decide) Ha;obtain ⟨g',oo',cs',rfl,Hj,Hc,Hg⟩:=HS.out.y.told.get (by decide) Ha;cases he
  cases Hg
  have hq:=zVp o.told[k];obtain ⟨r0,r1,r2,r3,r4,r5,r6,r7,r8⟩:=rg9 hc;obtain ⟨s0,s1,s2,s3,s4,s5,s6,s7,s8⟩:=rg9 Hc;clear hc Hc;exact zI6
 have Hb:(o.told.length:Int)<=(k:Int):=by omega
 obtain ⟨wa,Hi⟩:=mJ (wr);subst Hi;clear hm hk;go_wp2_with fail
 clear p0 p1 p2 p3 p4 p5 q0 q1 q2 q3 q4 q5 pl ql;go_loopw [9] (fun i wr=>∃ k:Nat,k<=o.codes.length/\i=.int .i64 k/\Hid (SmS w wr _ _ _ _ _ _ _ _ _ _ _ _ o)) (fun i _=>o.codes.length - (intOf i).toNat)
 case atStart=>exact ⟨0,mE _,rfl,HS⟩
 case round =>
 clear HS;obtain ⟨k,hk,rfl,HS⟩:=hrel;have hm:o.codes.length < 140737488355328:=by have:=HS.out.x.codes.len;unfold R47 at this;omega
 obtain ⟨p0,p1,p2,p3,p4,p5⟩:=cz6 HS.out.a;obtain ⟨q0,q1,q2,q3,q4,q5⟩:=cz6 HS.out.b;have pl:=HS.out.a.lt;have ql:=HS.out.b.lt;by_cases Ha:k < o.codes.length
 ·have Hb:(k:Int) < (o.codes.length:Int):=by omega
  obtain ⟨_,_,e,_,hd⟩:=HS.out.x.codes.ex;cases e
  obtain ⟨_,_,e,_,Ho⟩:=HS.out.y.codes.ex;cases e
  obtain ⟨g,oo,rfl,hg,hc⟩:=zDc hd Ha;obtain ⟨g',oo',rfl,Hj,Hc⟩:=zDc Ho Ha;clear hd Ho;exact zI6
 have Hb:(o.codes.length:Int)<=(k:Int):=by omega
 go_wp2
 go_ret
 exact ⟨rfl,HS.out.l⟩
end Go.Proofs.YtlngfbngnnepiaaGreat
