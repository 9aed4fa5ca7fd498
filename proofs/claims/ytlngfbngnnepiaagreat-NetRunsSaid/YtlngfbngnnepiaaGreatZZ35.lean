/- Part 35: words and walks under the laws of the whole. -/
import Derived.Test.YtlngfbngnnepiaaGreatZZ20
import Derived.Test.YtlngfbngnnepiaaGreatZZ21
import Derived.Test.YtlngfbngnnepiaaGreatZZ32
import Derived.Test.YtlngfbngnnepiaaGreatZZ34
set_option linter.unusedVariables false
set_option linter.unusedSimpArgs false
set_option maxHeartbeats 4000000
set_option maxRecDepth 100000
namespace Go.Proofs.YtlngfbngnnepiaaGreat
open Go.RowKit
structure RoS (w W:World) (gz:Nat) (r:Scu.Replica) (lv hv wv gv nv:Value):Prop where
 rb:Blk W w.heap.size 47 #[.int .i64 r.me,.int .i64 r.kept.view,.int .i64 r.kept.normal,.bool r.kept.calm,lv,.int .i64 r.kept.commit,hv,wv,gv,nv]
 zb:Blk W gz 47 #[.int .i64 0,.int .i64 0,.int .i64 0,.bool false,.slice none 0 0,.int .i64 0,.slice none 0 0,.slice none 0 0,.slice none 0 0,.slice none 0 0]
 low:Below w.heap.size w W
 lz:w.heap.size < gz
theorem RoS.below {w W W':World} {gz:Nat} {r:Scu.Replica} {lv hv wv gv nv:Value} (h:RoS w W gz r lv hv wv gv nv) (hb:Below W.heap.size W W'):RoS w W' gz r lv hv wv gv nv:=⟨h.rb.same hb,h.zb.same hb,h.low.trans (hb.mono h.low.size),h.lz⟩
theorem RoS.lower {w W W':World} {gz base:Nat} {r:Scu.Replica} {lv hv wv gv nv:Value} (h:RoS w W gz r lv hv wv gv nv) (hb:Below base W W') (hl:gz < base):RoS w W' gz r lv hv wv gv nv:=⟨h.rb.below hb (Nat.lt_trans h.lz hl),h.zb.below hb hl,h.low.trans (hb.mono (Nat.le_of_lt (Nat.lt_trans h.lz hl))),h.lz⟩
theorem fin10 {w X Wf:World} {g base:Nat} {rr:Scu.Replica} {lu hv wv gv nv ov:Value} {ms:List Scu.Message} {css:List (List Value)} (hz:Blk X g 47 #[.int .i64 0,.int .i64 0,.int .i64 0,.bool false,.slice none 0 0,.int .i64 0,.slice none 0 0,.slice none 0 0,.slice none 0 0,.slice none 0 0]) (hr:IsRep X 0 lu hv wv gv nv rr) (hm:OwnMs X base ov ms css) (hl:Below w.heap.size w X) (hg:w.heap.size<=g) (hb:w.heap.size<=base) (Ha:Wf=(((((((((X.setCell ⟨g,0,none⟩ (.int .i64 rr.me)).setCell ⟨g,1,none⟩ (.int .i64 rr.kept.view)).setCell ⟨g,2,none⟩ (.int .i64 rr.kept.normal)).setCell ⟨g,3,none⟩ (.bool rr.kept.calm)).setCell ⟨g,4,none⟩ (lu)).setCell ⟨g,5,none⟩ (.int .i64 rr.kept.commit)).setCell ⟨g,6,none⟩ (hv)).setCell ⟨g,7,none⟩ (wv)).setCell ⟨g,8,none⟩ (gv)).setCell ⟨g,9,none⟩ (nv)) :
 (Wf.cell? ⟨g,0,none⟩=some (.int .i64 rr.me)/\Wf.cell? ⟨g,1,none⟩=some (.int .i64 rr.kept.view)/\Wf.cell? ⟨g,2,none⟩=some (.int .i64 rr.kept.normal)/\Wf.cell? ⟨g,3,none⟩=some (.bool rr.kept.calm)/\Wf.cell? ⟨g,4,none⟩=some (lu)/\Wf.cell? ⟨g,5,none⟩=some (.int .i64 rr.kept.commit)/\Wf.cell? ⟨g,6,none⟩=some (hv)/\Wf.cell? ⟨g,7,none⟩=some (wv)/\Wf.cell? ⟨g,8,none⟩=some (gv)/\Wf.cell? ⟨g,9,none⟩=some (nv))/\IsRep Wf 0 lu hv wv gv nv rr/\IsRow 99 8 80 MsgE Wf 0 ov ms/\(∀ q,ov.ownBlock=some q->w.heap.size<=q)/\Below w.heap.size w Wf:=by
 subst Ha;have hs:Same [9,3,4,42,99] 0 X ((((((((((X.setCell ⟨g,0,none⟩ (.int .i64 rr.me)).setCell ⟨g,1,none⟩ (.int .i64 rr.kept.view)).setCell ⟨g,2,none⟩ (.int .i64 rr.kept.normal)).setCell ⟨g,3,none⟩ (.bool rr.kept.calm)).setCell ⟨g,4,none⟩ (lu)).setCell ⟨g,5,none⟩ (.int .i64 rr.kept.commit)).setCell ⟨g,6,none⟩ (hv)).setCell ⟨g,7,none⟩ (wv)).setCell ⟨g,8,none⟩ (gv)).setCell ⟨g,9,none⟩ (nv)):=Same.sets10 hz (mE _) (by decide);exact ⟨cz10 (zAm hz),hr.same (hs.mono (by simp) (mC _)),(hm.same (hs.mono (by simp) (mC _))).is,fun q hq=>mD hb (hm.row.lt q hq).1,zAh hl hg⟩
theorem genF {P:Program} {ops:Array Oper} {Q:Exit->Act->World->Prop} {md:Region.Mode} {S:World->Prop} {T:List Nat} {fuel:Nat} {listed:Array Bool} {a:Act} {w:World} (h:∀ W,W=w->wpAnyF P md ops Q S T fuel listed a W):wpAnyF P md ops Q S T fuel listed a w:=h w rfl
theorem genK {K:Act->World->Prop} {a:Act} {w:World} (h:∀ W,W=w->K a W):K a w:=h w rfl
theorem zFe {w W:World} {g g' o:Nat} {t':TypeId} {cs:Array Value} {vs:List Value} (Ha:g'≠g) (h:Blk w g' t' cs) (hW:W=w.setCells g o vs):Blk W g' t' cs:=hW ▸ zDf Ha vs o w h
theorem al2 {P:Program} {ops:Array Oper} {Q:Exit->Act->World->Prop} {md:Region.Mode} {S:World->Prop} {T:List Nat} {fuel:Nat} {listed:Array Bool} {a:Act} {w:World} (i j:Nat) {o o':Oper}
 (h:∀ K:Act->World->Prop,(∀ a' w',(i ∈ T\/S w')/\wpAnyF P md ops Q S T fuel (listed.setIfInBounds i true) a' w'->K a' w')->if Region.wanted o (yielded ops a.tmps)=true then o.wp P a w K Q else K (a.put o.dst undef) w)
 (h':∀ K:Act->World->Prop,(∀ a' w',(j ∈ T\/S w')/\wpAnyF P md ops Q S T fuel (listed.setIfInBounds j true) a' w'->K a' w')->if Region.wanted o' (yielded ops a.tmps)=true then o'.wp P a w K Q else K (a.put o'.dst undef) w)
 (hr:Region.ready md ops listed=[i,j]:=by kernel_rfl) (ho:ops[i]? = some o:=by rfl) (Ha:ops[j]? = some o':=by rfl):wpAnyF P md ops Q S T (fuel+1) listed a w:=by
 refine zKg hr (by simp) fun k hk=>?_
 simp only [List.mem_cons,List.not_mem_nil,or_false] at hk
 rcases hk with rfl | rfl
 ·exact wpOp_step ho fun K hK=>h K fun a' w' h=>hK a' w' h
 exact wpOp_step Ha fun K hK=>h' K fun a' w' h=>hK a' w' h
theorem zKu {g:Nat} (ob:Obj):∀ (vs:List Value) (o:Nat) (w:World),g < w.heap.size->(w.setCells g o vs).alloc ob=(w.alloc ob).setCells g o vs
 | [],_,_,_=>rfl
 | v :: r,o,w,h=>by
   show ((w.setCell ⟨g,o,none⟩ v).setCells g (o+1) r).alloc ob=((w.alloc ob).setCell ⟨g,o,none⟩ v).setCells g (o+1) r
   rw [zKu ob r (o+1) _ (by simpa [World.setCell] using h),World.setCell_alloc_past _ _ _ _ h]
theorem zNa (b:Nat):∀ (vs:List Value) (o:Nat) (w:World),(w.setCells b o vs).heap.size=w.heap.size
 | [],_,_=>rfl
 | _ :: r,o,w=>(zNa b r (o+1) _).trans (by simp [World.setCell])
theorem fin0 {w X:World} {g:Nat} (hz:Blk X g 47 #[.int .i64 0,.int .i64 0,.int .i64 0,.bool false,.slice none 0 0,.int .i64 0,.slice none 0 0,.slice none 0 0,.slice none 0 0,.slice none 0 0]) (hl:Below w.heap.size w X) (hg:w.heap.size<=g):(World.cell? ((((((((((X.setCell ⟨g,0,none⟩ (.int .i64 0)).setCell ⟨g,1,none⟩ (.int .i64 0)).setCell ⟨g,2,none⟩ (.int .i64 0)).setCell ⟨g,3,none⟩ (.bool false)).setCell ⟨g,4,none⟩ (.slice none 0 0)).setCell ⟨g,5,none⟩ (.int .i64 0)).setCell ⟨g,6,none⟩ (.slice none 0 0)).setCell ⟨g,7,none⟩ (.slice none 0 0)).setCell ⟨g,8,none⟩ (.slice none 0 0)).setCell ⟨g,9,none⟩ (.slice none 0 0)) ⟨g,0,none⟩=some (.int .i64 0)/\World.cell? ((((((((((X.setCell ⟨g,0,none⟩ (.int .i64 0)).setCell ⟨g,1,none⟩ (.int .i64 0)).setCell ⟨g,2,none⟩ (.int .i64 0)).setCell ⟨g,3,none⟩ (.bool false)).setCell ⟨g,4,none⟩ (.slice none 0 0)).setCell ⟨g,5,none⟩ (.int .i64 0)).setCell ⟨g,6,none⟩ (.slice none 0 0)).setCell ⟨g,7,none⟩ (.slice none 0 0)).setCell ⟨g,8,none⟩ (.slice none 0 0)).setCell ⟨g,9,none⟩ (.slice none 0 0)) ⟨g,1,none⟩=some (.int .i64 0)/\World.cell? ((((((((((X.setCell ⟨g,0,none⟩ (.int .i64 0)).setCell ⟨g,1,none⟩ (.int .i64 0)).setCell ⟨g,2,none⟩ (.int .i64 0)).setCell ⟨g,3,none⟩ (.bool false)).setCell ⟨g,4,none⟩ (.slice none 0 0)).setCell ⟨g,5,none⟩ (.int .i64 0)).setCell ⟨g,6,none⟩ (.slice none 0 0)).setCell ⟨g,7,none⟩ (.slice none 0 0)).setCell ⟨g,8,none⟩ (.slice none 0 0)).setCell ⟨g,9,none⟩ (.slice none 0 0)) ⟨g,2,none⟩=some (.int .i64 0)/\World.cell? ((((((((((X.setCell ⟨g,0,none⟩ (.int .i64 0)).setCell ⟨g,1,none⟩ (.int .i64 0)).setCell ⟨g,2,none⟩ (.int .i64 0)).setCell ⟨g,3,none⟩ (.bool false)).setCell ⟨g,4,none⟩ (.slice none 0 0)).setCell ⟨g,5,none⟩ (.int .i64 0)).setCell ⟨g,6,none⟩ (.slice none 0 0)).setCell ⟨g,7,none⟩ (.slice none 0 0)).setCell ⟨g,8,none⟩ (.slice none 0 0)).setCell ⟨g,9,none⟩ (.slice none 0 0)) ⟨g,3,none⟩=some (.bool false)/\World.cell? ((((((((((X.setCell ⟨g,0,none⟩ (.int .i64 0)).setCell ⟨g,1,none⟩ (.int .i64 0)).setCell ⟨g,2,none⟩ (.int .i64 0)).setCell ⟨g,3,none⟩ (.bool false)).setCell ⟨g,4,none⟩ (.slice none 0 0)).setCell ⟨g,5,none⟩ (.int .i64 0)).setCell ⟨g,6,none⟩ (.slice none 0 0)).setCell ⟨g,7,none⟩ (.slice none 0 0)).setCell ⟨g,8,none⟩ (.slice none 0 0)).setCell ⟨g,9,none⟩ (.slice none 0 0)) ⟨g,4,none⟩=some (.slice none 0 0)/\World.cell? ((((((((((X.setCell ⟨g,0,none⟩ (.int .i64 0)).setCell ⟨g,1,none⟩ (.int .i64 0)).setCell ⟨g,2,none⟩ (.int .i64 0)).setCell ⟨g,3,none⟩ (.bool false)).setCell ⟨g,4,none⟩ (.slice none 0 0)).setCell ⟨g,5,none⟩ (.int .i64 0)).setCell ⟨g,6,none⟩ (.slice none 0 0)).setCell ⟨g,7,none⟩ (.slice none 0 0)).setCell ⟨g,8,none⟩ (.slice none 0 0)).setCell ⟨g,9,none⟩ (.slice none 0 0)) ⟨g,5,none⟩=some (.int .i64 0)/\World.cell? ((((((((((X.setCell ⟨g,0,none⟩ (.int .i64 0)).setCell ⟨g,1,none⟩ (.int .i64 0)).setCell ⟨g,2,none⟩ (.int .i64 0)).setCell ⟨g,3,none⟩ (.bool false)).setCell ⟨g,4,none⟩ (.slice none 0 0)).setCell ⟨g,5,none⟩ (.int .i64 0)).setCell ⟨g,6,none⟩ (.slice none 0 0)).setCell ⟨g,7,none⟩ (.slice none 0 0)).setCell ⟨g,8,none⟩ (.slice none 0 0)).setCell ⟨g,9,none⟩ (.slice none 0 0)) ⟨g,6,none⟩=some (.slice none 0 0)/\World.cell? ((((((((((X.setCell ⟨g,0,none⟩ (.int .i64 0)).setCell ⟨g,1,none⟩ (.int .i64 0)).setCell ⟨g,2,none⟩ (.int .i64 0)).setCell ⟨g,3,none⟩ (.bool false)).setCell ⟨g,4,none⟩ (.slice none 0 0)).setCell ⟨g,5,none⟩ (.int .i64 0)).setCell ⟨g,6,none⟩ (.slice none 0 0)).setCell ⟨g,7,none⟩ (.slice none 0 0)).setCell ⟨g,8,none⟩ (.slice none 0 0)).setCell ⟨g,9,none⟩ (.slice none 0 0)) ⟨g,7,none⟩=some (.slice none 0 0)/\World.cell? ((((((((((X.setCell ⟨g,0,none⟩ (.int .i64 0)).setCell ⟨g,1,none⟩ (.int .i64 0)).setCell ⟨g,2,none⟩ (.int .i64 0)).setCell ⟨g,3,none⟩ (.bool false)).setCell ⟨g,4,none⟩ (.slice none 0 0)).setCell ⟨g,5,none⟩ (.int .i64 0)).setCell ⟨g,6,none⟩ (.slice none 0 0)).setCell ⟨g,7,none⟩ (.slice none 0 0)).setCell ⟨g,8,none⟩ (.slice none 0 0)).setCell ⟨g,9,none⟩ (.slice none 0 0)) ⟨g,8,none⟩=some (.slice none 0 0)/\World.cell? ((((((((((X.setCell ⟨g,0,none⟩ (.int .i64 0)).setCell ⟨g,1,none⟩ (.int .i64 0)).setCell ⟨g,2,none⟩ (.int .i64 0)).setCell ⟨g,3,none⟩ (.bool false)).setCell ⟨g,4,none⟩ (.slice none 0 0)).setCell ⟨g,5,none⟩ (.int .i64 0)).setCell ⟨g,6,none⟩ (.slice none 0 0)).setCell ⟨g,7,none⟩ (.slice none 0 0)).setCell ⟨g,8,none⟩ (.slice none 0 0)).setCell ⟨g,9,none⟩ (.slice none 0 0)) ⟨g,9,none⟩=some (.slice none 0 0))/\Below w.heap.size w ((((((((((X.setCell ⟨g,0,none⟩ (.int .i64 0)).setCell ⟨g,1,none⟩ (.int .i64 0)).setCell ⟨g,2,none⟩ (.int .i64 0)).setCell ⟨g,3,none⟩ (.bool false)).setCell ⟨g,4,none⟩ (.slice none 0 0)).setCell ⟨g,5,none⟩ (.int .i64 0)).setCell ⟨g,6,none⟩ (.slice none 0 0)).setCell ⟨g,7,none⟩ (.slice none 0 0)).setCell ⟨g,8,none⟩ (.slice none 0 0)).setCell ⟨g,9,none⟩ (.slice none 0 0)):=⟨cz10 (zAm hz),zAh hl hg⟩
theorem OwnRep.push_log {P w4:World} {base:Nat} {r:Scu.Replica} {lu hv wv gv nv v4:Value} (h:OwnRep P base lu hv wv gv nv r) (Hc:ApG P base gv r.gives lu) (hm:(r.kept.log.length+1)*16<=R47) {e:Scu.Str} (he:e.size<=R47)
 (h4:w4.ownsRow base 9 1 v4 (r.kept.log.length+1) (r.kept.log.map Value.string ++ [.string e])) (hg:P.grownBy w4 lu.ownBlock) :
 OwnRep w4 base v4 hv wv gv nv { r with kept:={ r.kept with log:=r.kept.log ++ [e] } }:=by
 have Hb:=h.own.log.1;have Ha:Same [3,4,42] 0 P w4:=Same.own Hb hg (mE _) (by decide);obtain ⟨kss,hk,Hd⟩:=Hc;have He:OwnKs w4 base gv r.gives kss:=⟨hk.len,hk.five,zCq hk.row (Ts:=[42]) (by simp) (Ha.mono (by simp) (mC _)),fun j cs k a b=>by
  obtain ⟨lv,e',hl⟩:=hk.each j cs k a b;refine ⟨lv,e',hl.grown_ap hg fun x hx=>Hd cs (List.mem_of_getElem? a) lv (by rw [e'];simp) x hx⟩,hk.max⟩
 refine ⟨⟨⟨?_,by simpa using hm,fun s hs=>?_⟩,h.own.have_.same (Ha.mono (by simp) (mC _)),h.own.wants.same (Ha.mono (by simp) (mC _)),h.own.given.same (Ha.mono (by simp) (mC _)),h.own.apart⟩,kss,He⟩
 ·rw [List.length_append,List.map_append];exact h4
 rcases List.mem_append.1 hs with h' | h'
 ·exact h.own.log.2.2 s h'
 rw [List.mem_singleton] at h';subst h';exact he
theorem zD5 {P:Prop} (h:P:=by
 rw [<- hh.1,<- (Prod.mk.inj hh.2).1,<- (Prod.mk.inj hh.2).2];exact ⟨⟨_,_,_,_,_,_,rfl,HT.out.1,HT.out.2.1,HT.out.2.2.1⟩,HT.out.2.2.2⟩):P:=h
theorem zE5 {P:Prop} (h:P:=by
 rw [<- hh.1,<- (Prod.mk.inj hh.2).1,<- (Prod.mk.inj hh.2).2];exact ⟨zAs _ _ _,HT.out⟩):P:=h
theorem zUp (lv hv wv gv nv:Value) (r:Scu.Replica) (w:World) (B:Nat) (hr:IsRep w B lv hv wv gv nv r) (rr:Scu.Replica) (ms:List Scu.Message) (f:Int) (h:Scu.tick r=(rr,ms,f)) :
 Calls Tryz.prog 39 #[.agg #[.int .i64 r.me,.int .i64 r.kept.view,.int .i64 r.kept.normal,.bool r.kept.calm,lv,.int .i64 r.kept.commit,hv,wv,gv,nv]] w fun e w'=>TellN w.heap.size w' rr ms f e/\Below w.heap.size w w':=by
 have HV:=mA hr;have HH:=mA h;obtain ⟨A0,n0,c0,A1,c1,A2,c2,A3,c3,A4,c4,rfl,rfl,rfl,rfl,rfl⟩:=hr.forms;clear hr h;obtain ⟨f1,Hu⟩:=mK (Scu.repFault r);have HF:=mA Hu;clear Hu;go_enter Tryz.func39,Tryz.ntmps39
 go_wp2_with fail
 have h0:Below w.heap.size w ((w.alloc (.cells (rN r A0 n0 c0 A1 c1 A2 c2 A3 c3 A4 c4) 47)).alloc (.cells zR 47)):=(zAa w _).alloc (by simp) _;refine (zBv _ _ _ _ _ r _ B (HV.out.below h0) f1 HF.out).mono ?_;rintro en w1 ⟨rfl,h1⟩;obtain ⟨gz,Hv⟩:=mK (w.heap.size+1);have HS:=mA (show RoS w w1 gz r (.slice A0 n0 c0) (.slice A1 r.have_.length c1) (.slice A2 r.wants.length c2) (.slice A3 r.gives.length c3) (.slice A4 r.given.length c4) from
  ⟨((Blk.new w _ _).alloc _).same h1,(Blk.new' (by simp;omega)).same h1,h0.trans (h1.mono h0.size),by omega⟩)
 rw [Hv];clear h1 h0 Hv;by_cases hf:f1=0
 ·subst hf;go_upto_region 4 with fail
  obtain ⟨s0,s1,s2,s3,s4,s5,s6,s7,s8,s9⟩:=cz10 HS.out.rb;have sl:=HS.out.rb.lt;go_wp2_with fail
  refine (zCs A0 _ c0 A1 c1 A2 c2 A3 r.gives.length c3 A4 c4 r _ B (HV.out.below HS.out.low)).mono ?_;rintro en w2 ⟨⟨lu,hu,wu,gu,nu,rfl,ho,Hp⟩,h2⟩;obtain ⟨E0,m0,d0,E1,d1,E2,d2,E3,d3,E4,d4,rfl,rfl,rfl,rfl,rfl⟩:=ho.is.forms;clear s0 s1 s2 s3 s4 s5 s6 s7 s8 s9;go_upto_region 5 with fail
  obtain ⟨Wc,Hk⟩:=mJ (w2.alloc (.cells (rN r E0 m0 d0 E1 d1 E2 d2 E3 d3 E4 d4) 47));rw [<- Hk];have Hl:Below w2.heap.size w2 Wc:=by rw [Hk];exact zAa _ _
  obtain ⟨base,Hi⟩:=mK (w1.heap.size);have Hq:w.heap.size<=base:=by rw [<- Hi];exact HS.out.low.size
  have Kh:gz < base:=by rw [<- Hi];exact HS.out.zb.lt
  rw [Hi] at ho Hp;have HC:=mA (show RWk Wc base w2.heap.size r (.slice E0 m0 d0) (.slice E1 r.have_.length d1) (.slice E2 r.wants.length d2) (.slice E3 r.gives.length d3) (.slice E4 r.given.length d4)/\ApG Wc base (.slice E3 r.gives.length d3) r.gives (.slice E0 m0 d0) from
   ⟨⟨by rw [Hk];exact Blk.new _ _ _,ho.below Hl,by rw [<- Hi];exact h2.size⟩,Hp.below Hl⟩)
  have HS:=mA (HS.out.below (h2.trans (Hl.mono h2.size)));obtain ⟨gc,Hw⟩:=mK (w2.heap.size);rw [Hw] at HC ⊢;clear Hk Hl ho Hp h2 sl Hi Hw;have Hx:=zBn HF.out;obtain ⟨bl,Hy⟩:=mK (Scu.leads r);have Hm:=mA Hy;clear Hy;obtain ⟨s0,s1,s2,s3,s4,s5,s6,s7,s8,s9⟩:=cz10 HS.out.rb;go_wp2_with fail
  refine (zEr _ _ _ _ _ r Hx _ bl Hm.out).mono ?_;rintro en w3 ⟨rfl,h3⟩;have HS:=mA (HS.out.below h3);have HC:=mA (mB (HC.out.1.below h3) (HC.out.2.below h3));clear h3 s0 s1 s2 s3 s4 s5 s6 s7 s8 s9;cases bl with
  | true =>
    have hh:(r,Scu.leadOn r,0)=(rr,ms,f):=by have h:=HH.out;unfold Scu.tick at h;rw [if_neg (by rw [HF.out];simp),if_pos Hm.out] at h;exact h
    go_upto_region 6 with fail
    have Ha:Below w3.heap.size w3 w3.drew:=(mG _ _).drew;refine rgF (Below w3.heap.size w3) [3,4,5] [0,1] Ha ?_;iterate 2
     first
     | (refine tkc (v:=?_) rfl (Or.inl ⟨by rfl,?_⟩) ?_;rotate_left;(intro wv Hh;(obtain ⟨o0,o1,o2,o3,o4,o5,o6,o7,o8,o9⟩:=cz10 (HC.out.1.rb.same Hh));go_simp;with_reducible rfl);(try simp only [Act.put,zp1,zp2,zp3]))
    refine tkz (fun Hz=>?_);refine alF 2 (fun KA He=>?_);go_simp;refine ((zLj r _ _ _ _ _ _ 0 (mE _) (HC.out.1.own.own.log.is.below Ha))).mono ?_;rintro en x1 ⟨⟨ov,css,rfl,hu⟩,k1⟩;obtain ⟨Ao,co,rfl⟩:=hu.form;have Ha:=Ha.trans k1;refine He _ _ ⟨.inr Ha,?_⟩;refine puT ?_;have HS:=mA (HS.out.below Ha);have HX:=mA (mB (HC.out.1.own.below Ha).is (hu.base_ (show base<=w3.drew.heap.size from HC.out.1.base_le)));refine alF 3 (fun KB Hf=>?_);rw [if_pos (by rfl)];refine wp_store_mid 47 (.tmp 2) (.tmp 17) rfl gz 0 #[_,_,_,_,_,_,_,_,_,_] rfl rfl (zFv HS.out.zb) (by kernel_rfl) (by simp [Value.oneCell']) ?_;refine Hf _ _ ⟨.inl (by simp),genF fun Wf Hb=>?_⟩;have Hd:=mA Hb;clear Hb;refine puT ?_;refine alF 4 (fun KC Hc=>?_);go_simp;refine Hc _ _ ⟨.inl (by simp),?_⟩;refine puT ?_;refine alF 5 (fun KC Hc=>?_);go_simp;refine Hc _ _ ⟨.inl (by simp),?_⟩;refine puT ?_;refine zAe (by kernel_rfl) ?_ _;change Exit.then _ _ _ _ Wf;have Hg:=mA hh;clear hh;obtain ⟨⟨r0,r1,r2,r3,r4,r5,r6,r7,r8,r9⟩,hT⟩:=fin10 HS.out.zb HX.out.1 HX.out.2 HS.out.low (Nat.le_of_lt HS.out.lz) Hq Hd.out;have HT:=mA hT;clear hT;go_wp2
    refine bodyPost_ret (v:=.tuple #[.agg (rN r E0 m0 d0 E1 d1 E2 d2 E3 d3 E4 d4),.slice Ao (Scu.leadOn r).length co,.int .i64 0]) (by simp [results,Tryz.results39,go_sem,r0,r1,r2,r3,r4,r5,r6,r7,r8,r9]) rfl ?_;have hh:=Prod.mk.inj Hg.out;exact zD5
  | false =>
    obtain ⟨-,-,-,s3,-⟩:=cz5 HS.out.rb;have sl:=HS.out.rb.lt;cases hc:r.kept.calm with
    | true =>
      rw [hc] at s3;have hh:(r,[{ Scu.msg0 with kind:=2,from_:=r.me,tq:=Scu.leader r.kept.view,view:=r.kept.view,n:=r.kept.log.length }],0)=(rr,ms,f):=by have h:=HH.out;unfold Scu.tick at h;rw [if_neg (by rw [HF.out];simp),if_neg (by rw [Hm.out];simp),if_pos hc] at h;exact h
      have Hg:=mA hh;have Ki:=mA hc;have Kd:n0=r.kept.log.length:=by obtain ⟨A',c',e,_⟩:=HV.out.log.ex;cases e;rfl
      subst Kd;clear hh hc;go_upto_region 8 with fail
      clear s3;clear sl;go_wp2_with fail
      have nwz:w.heap.size≠gz:=Nat.ne_of_lt HS.out.lz;have ncz:gc≠gz:=fun e=>by have:=HC.out.1.lr;omega
      have Ha:Blk w3.drew w.heap.size 47 _/\Blk w3.drew gc 47 _:=⟨HS.out.rb.drew,HC.out.1.rb.drew⟩;refine rgF (fun x=>Blk x w.heap.size 47 _/\Blk x gc 47 _) [17,18] [0,1,2,3,4,5,6,7,8,9,10,11,12,13,14] Ha ?_;iterate 15
       first
       | (refine tkc (v:=?_) rfl (Or.inl ⟨by rfl,?_⟩) ?_;rotate_left;(intro wv Hh;(obtain ⟨s0,s1,s2,s3,s4,s5,s6,s7,s8,s9⟩:=cz10 Hh.1;obtain ⟨o0,o1,o2,o3,o4,o5,o6,o7,o8,o9⟩:=cz10 Hh.2);go_simp;with_reducible rfl);(try simp only [Act.put,zp1,zp2,zp3]))
      refine tkz (fun Hz=>?_);refine al2 15 16 (fun KA He=>?firstA) (fun KA He=>?firstB);case' firstA =>
       go_simp;refine He _ _ ⟨.inr ⟨Ha.1.alloc _,Ha.2.alloc _⟩,?_⟩;refine puT ?_;refine alF 16 (fun KB Hf=>?_);rw [if_pos (by rfl)];refine wp_store_mid 47 (.tmp 2) (.tmp 23) rfl gz 0 #[_,_,_,_,_,_,_,_,_,_] rfl rfl (zFv (HS.out.zb.drew.alloc _)) (by kernel_rfl) (by simp [Value.oneCell']) ?_;refine genK (fun Wf Hb=>Hf _ _ ⟨.inr ⟨zFe nwz (Ha.1.alloc _) Hb,zFe ncz (Ha.2.alloc _) Hb⟩,?_⟩);have Hd:=mA Hb
      case' firstB =>
       rw [if_pos (by rfl)];refine wp_store_mid 47 (.tmp 2) (.tmp 23) rfl gz 0 #[_,_,_,_,_,_,_,_,_,_] rfl rfl (zFv HS.out.zb.drew) (by kernel_rfl) (by simp [Value.oneCell']) ?_;refine genK (fun Wb Hj=>?_);have Hr:=mB (zFe nwz Ha.1 Hj) (zFe ncz Ha.2 Hj);refine He _ _ ⟨.inr Hr,?_⟩;have HB:=mA Hj;have Kj:Wb.heap.size=w3.heap.size:=by rw [Hj];exact zNa _ _ _ _
       clear Hj;refine puT ?_;refine alF 15 (fun KB Hf=>?_);go_simp;refine Hf _ _ ⟨.inr ⟨Hr.1.alloc _,Hr.2.alloc _⟩,genF fun Wf Hb=>?_⟩;rw [HB.out] at Hb;have Hd:=mA (Hb.trans (zKu _ _ _ _ HS.out.zb.lt))
      all_goals
       clear Hb;refine puT ?_;refine alF 17 (fun KC Hc=>?_);go_simp;refine Hc _ _ ⟨.inl (by simp),?_⟩;refine puT ?_;refine alF 18 (fun KC Hc=>?_);go_simp;refine Hc _ _ ⟨.inl (by simp),?_⟩;refine puT ?_;refine zAe (by kernel_rfl) ?_ _;change Exit.then _ _ _ _ Wf;obtain ⟨X,hX⟩:=mJ (w3.drew.alloc (.cells (msgV { Scu.msg0 with kind:=2,from_:=r.me,tq:=Scu.leader r.kept.view,view:=r.kept.view,n:=r.kept.log.length } (.slice none 0 0)).toArray 99));have Hd:=mA (show Wf=X.setCells gz 0 _ from by have e:=Hd.out;rw [show r.kept.view.tmod 3=Scu.leader r.kept.view from Int.tmod_eq_emod_of_nonneg Hx] at e;rw [hX];exact e);have Hs:Below w3.heap.size w3 X:=by rw [hX];exact (mG _ _).drew.alloc (mC _) _
       have HS:=mA (HS.out.below Hs);have HX:=mA (mB (HC.out.1.own.below Hs).is (show OwnMs X base (.slice (some ⟨w3.heap.size,0,none⟩) 1 1) _ _ by rw [hX];exact zFu (Blk.new w3.drew _ _) rfl rfl HC.out.1.base_le));clear hX Hs;obtain ⟨⟨r0,r1,r2,r3,r4,r5,r6,r7,r8,r9⟩,hT⟩:=fin10 HS.out.zb HX.out.1 HX.out.2 HS.out.low (Nat.le_of_lt HS.out.lz) Hq Hd.out;have HT:=mA hT;clear hT;go_wp2
       refine bodyPost_ret (v:=.tuple #[.agg (rN r E0 m0 d0 E1 d1 E2 d2 E3 d3 E4 d4),.slice (some ⟨w3.heap.size,0,none⟩) 1 1,.int .i64 0]) (by simp [results,Tryz.results39,go_sem,r0,r1,r2,r3,r4,r5,r6,r7,r8,r9]) rfl ?_;have hh:=Prod.mk.inj Hg.out;exact zD5
    | false =>
      rw [hc] at s3;have hh:({ r with wants:=r.wants.set r.me.toNat true },Scu.toAll r.me r.kept.view { Scu.msg0 with kind:=3 },0)=(rr,ms,f):=by have h:=HH.out;unfold Scu.tick at h;rw [if_neg (by rw [HF.out];simp),if_neg (by rw [Hm.out];simp),if_neg (by rw [hc];simp)] at h;exact h
      have Hg:=mA hh;have H3:=mA (zCw HF.out);clear hh hc;have Ke:0<=r.me:=H3.out.2.2.2.2.1;have Kf:r.me < 3:=H3.out.2.2.2.2.2;go_upto_region 9 with fail
      clear s3;obtain ⟨gq,cq,Ka⟩:=ones3f HC.out.1.own.own.wants H3.out.2.1;simp only [Value.slice.injEq] at Ka
      obtain ⟨rfl,_,rfl⟩:=Ka;have Ht:=HC.out.1;rw [H3.out.2.1] at Ht;have HC:=mA Ht;clear Ht;obtain ⟨Hn,⟨cur,hB⟩,Kb,Kc,Kg⟩:=ones3' HC.out.own.own.wants H3.out.2.1;obtain ⟨u,hu⟩:=Option.isSome_iff_exists.1 (Kb r.me.toNat (by omega));have dz:=Kc r.me.toNat;have HB:=mA (mB hB Hn);clear hB Kb Kc Kg Hn;obtain ⟨s0,-⟩:=cz3 HS.out.rb;obtain ⟨o0,o1,o2,o3,o4,o5,o6,o7,o8,o9⟩:=cz10 HC.out.rb;have ol:=HC.out.rb.lt;go_upto_region 10 with fail
      obtain ⟨Wv,Ho⟩:=mJ (w3.setCell ⟨gq,r.me.toNat,none⟩ (.bool true));rw [<- Ho];have Hn:=HB.out.2;have Kk:=HS.out.lz;have HC:=mA (mB (show RWk Wv base gc { r with wants:=r.wants.set r.me.toNat true } (.slice E0 m0 d0) (.slice E1 r.have_.length d1) (.slice (some ⟨gq,0,none⟩) 3 d2) (.slice E3 r.gives.length d3) (.slice E4 r.given.length d4) from by
       rw [Ho];exact ⟨HC.out.rb.far (p:=⟨gq,r.me.toNat,none⟩) (zAw HC.out.rb HB.out.1 (by decide)) _,HC.out.own.put_wants HB.out.1 r.me.toNat true,HC.out.lr⟩) trivial)
      have HS:=mA (show RoS w Wv gz r _ _ _ _ _ from by
       rw [Ho];exact ⟨HS.out.rb.far (p:=⟨gq,r.me.toNat,none⟩) (by show w.heap.size≠gq;omega) _,HS.out.zb.far (p:=⟨gq,r.me.toNat,none⟩) (by show gz≠gq;omega) _,HS.out.low.setCell (p:=⟨gq,r.me.toNat,none⟩) (by show w.heap.size<=gq;omega) _,HS.out.lz⟩)
      clear Ho s0 o0 o1 o2 o3 o4 o5 o6 o7 o8 o9 ol hu dz Hn;have Ha:Below Wv.heap.size Wv Wv.drew:=(mG _ _).drew;refine rgF (Below Wv.heap.size Wv) [4,5,6] [0,1,2] Ha ?_;iterate 3
       first
       | (refine tkc (v:=?_) rfl (Or.inl ⟨by rfl,?_⟩) ?_;rotate_left;(intro wv Hh;(obtain ⟨o0,o1,o2,o3,o4,o5,o6,o7,o8,o9⟩:=cz10 (HC.out.1.rb.same Hh));go_simp;with_reducible rfl);(try simp only [Act.put,zp1,zp2,zp3]))
      refine tkz (fun Hz=>?_);refine alF 3 (fun KA He=>?_);go_simp;refine ((zOb r.me r.kept.view r.kept.normal _ _ r.kept.commit _ _ _ _ (.slice none 0 0) { Scu.msg0 with kind:=3 } _ 0 (mE _) IsStrs.nil_)).mono ?_;rintro en x1 ⟨⟨ov,css,rfl,hu⟩,k1⟩;obtain ⟨Ao,co,rfl⟩:=hu.form;have Ha:=Ha.trans k1;refine He _ _ ⟨.inr Ha,?_⟩;refine puT ?_;have HS:=mA (HS.out.below Ha);have HX:=mA (mB (HC.out.1.own.below Ha).is (hu.base_ (show base<=Wv.drew.heap.size from HC.out.1.base_le)));refine alF 4 (fun KB Hf=>?_);rw [if_pos (by rfl)];refine wp_store_mid 47 (.tmp 2) (.tmp 44) rfl gz 0 #[_,_,_,_,_,_,_,_,_,_] rfl rfl (zFv HS.out.zb) (by kernel_rfl) (by simp [Value.oneCell']) ?_;refine Hf _ _ ⟨.inl (by simp),genF fun Wf Hb=>?_⟩;have Hd:=mA Hb;clear Hb;refine puT ?_;refine alF 5 (fun KC Hc=>?_);go_simp;refine Hc _ _ ⟨.inl (by simp),?_⟩;refine puT ?_;refine alF 6 (fun KC Hc=>?_);go_simp;refine Hc _ _ ⟨.inl (by simp),?_⟩;refine puT ?_;refine zAe (by kernel_rfl) ?_ _;change Exit.then _ _ _ _ Wf;obtain ⟨⟨r0,r1,r2,r3,r4,r5,r6,r7,r8,r9⟩,hT⟩:=fin10 HS.out.zb HX.out.1 HX.out.2 HS.out.low (Nat.le_of_lt HS.out.lz) Hq Hd.out;have HT:=mA hT;clear hT;go_wp2
      refine bodyPost_ret (v:=.tuple #[.agg #[.int .i64 r.me,.int .i64 r.kept.view,.int .i64 r.kept.normal,.bool r.kept.calm,.slice E0 m0 d0,.int .i64 r.kept.commit,.slice E1 r.have_.length d1,.slice (some ⟨gq,0,none⟩) 3 d2,.slice E3 r.gives.length d3,.slice E4 r.given.length d4],.slice Ao (partAll r.me r.kept.view { Scu.msg0 with kind:=3 } 3).length co,.int .i64 0]) (by simp [results,Tryz.results39,go_sem,r0,r1,r2,r3,r4,r5,r6,r7,r8,r9]) rfl ?_;have hh:=Prod.mk.inj Hg.out;exact zD5
 have Kl:(f1 != 0)=true:=by simpa using hf
 have hh:(Scu.replica0,[],f1)=(rr,ms,f):=by have h:=HH.out;unfold Scu.tick at h;rw [HF.out,if_pos hf] at h;exact h
 clear hf;obtain ⟨z0,z1,z2,z3,z4,z5,z6,z7,z8,z9⟩:=cz10 HS.out.zb;have zz:=HS.out.zb.frozen;have zl:=HS.out.zb.lt;obtain ⟨⟨r0,r1,r2,r3,r4,r5,r6,r7,r8,r9⟩,hT⟩:=fin0 HS.out.zb HS.out.low (Nat.le_of_lt HS.out.lz);have HT:=mA hT;have Hg:=mA hh;clear hT hh;go_wp2
 refine bodyPost_ret (v:=.tuple #[.agg zR,.slice none 0 0,.int .i64 f1]) (by simp [results,Tryz.results39,go_sem,r0,r1,r2,r3,r4,r5,r6,r7,r8,r9]) rfl ?_;have hh:=Prod.mk.inj Hg.out;exact zE5
theorem zSk (lv hv wv gv nv:Value) (r:Scu.Replica) (w:World) (B:Nat) (hr:IsRep w B lv hv wv gv nv r) (rr:Scu.Replica) (ms:List Scu.Message) (f:Int) (h:Scu.alarm r=(rr,ms,f)) :
 Calls Tryz.prog 40 #[.agg #[.int .i64 r.me,.int .i64 r.kept.view,.int .i64 r.kept.normal,.bool r.kept.calm,lv,.int .i64 r.kept.commit,hv,wv,gv,nv]] w fun e w'=>TellN w.heap.size w' rr ms f e/\Below w.heap.size w w':=by
 have HV:=mA hr;have HH:=mA h;obtain ⟨A0,n0,c0,A1,c1,A2,c2,A3,c3,A4,c4,rfl,rfl,rfl,rfl,rfl⟩:=hr.forms;clear hr h;obtain ⟨f1,Hg⟩:=mK (Scu.repFault r);have HF:=mA Hg;clear Hg;go_enter Tryz.func40,Tryz.ntmps40
 go_wp2_with fail
 have h0:Below w.heap.size w ((w.alloc (.cells (rN r A0 n0 c0 A1 c1 A2 c2 A3 c3 A4 c4) 47)).alloc (.cells zR 47)):=(zAa w _).alloc (by simp) _;refine (zBv _ _ _ _ _ r _ B (HV.out.below h0) f1 HF.out).mono ?_;rintro en w1 ⟨rfl,h1⟩;obtain ⟨gz,Hh⟩:=mK (w.heap.size+1);have HS:=mA (show RoS w w1 gz r (.slice A0 n0 c0) (.slice A1 r.have_.length c1) (.slice A2 r.wants.length c2) (.slice A3 r.gives.length c3) (.slice A4 r.given.length c4) from
  ⟨((Blk.new w _ _).alloc _).same h1,(Blk.new' (by simp;omega)).same h1,h0.trans (h1.mono h0.size),by omega⟩)
 rw [Hh];clear h1 h0 Hh;by_cases hf:f1=0
 ·subst hf;have H3:=mA (zCw HF.out);obtain ⟨s0,s1,-⟩:=cz3 HS.out.rb;have sl:=HS.out.rb.lt;have Hl:r.kept.view<=1048576:=(Scu.keptFault_ok (Scu.repFault_ok HF.out).2.2.2.2.2.2.2).2.1;by_cases hm:r.kept.view=1048576
  ·have Hi:decide (1048576<=r.kept.view)=true:=by simp [hm]
   have hh:(Scu.replica0,[],7)=(rr,ms,f):=by have h:=HH.out;unfold Scu.alarm at h;rw [if_neg (by rw [HF.out];simp),if_pos hm] at h;exact h
   clear hm Hl;obtain ⟨z0,z1,z2,z3,z4,z5,z6,z7,z8,z9⟩:=cz10 HS.out.zb;have zz:=HS.out.zb.frozen;have zl:=HS.out.zb.lt;obtain ⟨⟨r0,r1,r2,r3,r4,r5,r6,r7,r8,r9⟩,hT⟩:=fin0 HS.out.zb HS.out.low (Nat.le_of_lt HS.out.lz);have HT:=mA hT;have Hb:=mA hh;clear hT hh;go_wp2
   refine bodyPost_ret (v:=.tuple #[.agg zR,.slice none 0 0,.int .i64 7]) (by simp [results,Tryz.results40,go_sem,r0,r1,r2,r3,r4,r5,r6,r7,r8,r9]) rfl ?_;have hh:=Prod.mk.inj Hb.out;exact zE5
  have Hi:decide (1048576<=r.kept.view)=false:=by simp;omega
  obtain ⟨rn,m1,hw⟩:∃ a b,Scu.want r (r.kept.view+1)=(a,b):=⟨_,_,rfl⟩;have Hb:=mA (show (rn,m1,(0:Int))=(rr,ms,f) by have h:=HH.out;unfold Scu.alarm at h;rw [if_neg (by rw [HF.out];simp),if_neg hm,hw] at h;exact h);have HW:=mA hw;have Ho:r.kept.view < 1048576:=by omega
  have Hp:=zBn HF.out;clear hm hw;go_upto_region 6 with fail
  clear s0 s1 sl Hi;obtain ⟨s0,s1,s2,s3,s4,s5,s6,s7,s8,s9⟩:=cz10 HS.out.rb;have sl:=HS.out.rb.lt;go_wp2_with fail
  refine (zCs A0 _ c0 A1 c1 A2 c2 A3 r.gives.length c3 A4 c4 r _ B (HV.out.below HS.out.low)).mono ?_;rintro en w2 ⟨⟨lu,hu,wu,gu,nu,rfl,ho,Hf⟩,h2⟩;obtain ⟨E0,m0,d0,E1,d1,E2,d2,E3,d3,E4,d4,rfl,rfl,rfl,rfl,rfl⟩:=ho.is.forms;clear s0 s1 s2 s3 s4 s5 s6 s7 s8 s9;go_upto_region 7 with fail
  obtain ⟨Wc,Hd⟩:=mJ (w2.alloc (.cells (rN r E0 m0 d0 E1 d1 E2 d2 E3 d3 E4 d4) 47));rw [<- Hd];have He:Below w2.heap.size w2 Wc:=by rw [Hd];exact zAa _ _
  obtain ⟨base,Hc⟩:=mK (w1.heap.size);have Hm:w.heap.size<=base:=by rw [<- Hc];exact HS.out.low.size
  have Hn:gz < base:=by rw [<- Hc];exact HS.out.zb.lt
  rw [Hc] at ho Hf;have HC:=mA (show RWk Wc base w2.heap.size r (.slice E0 m0 d0) (.slice E1 r.have_.length d1) (.slice E2 r.wants.length d2) (.slice E3 r.gives.length d3) (.slice E4 r.given.length d4)/\ApG Wc base (.slice E3 r.gives.length d3) r.gives (.slice E0 m0 d0) from
   ⟨⟨by rw [Hd];exact Blk.new _ _ _,ho.below He,by rw [<- Hc];exact h2.size⟩,Hf.below He⟩)
  have HS:=mA (HS.out.below (h2.trans (He.mono h2.size)));obtain ⟨gc,Hj⟩:=mK (w2.heap.size);rw [Hj] at HC ⊢;clear Hd He ho Hf h2 sl Hc Hj;obtain ⟨s0,s1,-⟩:=cz3 HS.out.rb;have sl:=HS.out.rb.lt;go_wp2_with fail
  refine (zLl gc r _ _ _ _ _ (r.kept.view+1) base Wc HC.out.1.rb HC.out.1.own.own.log HC.out.1.lr H3.out.2.2.2.2.1 H3.out.2.2.2.2.2 rn m1 HW.out).mono ?_;rintro en x1 ⟨⟨Ao,co,css,Hq,wu',gu',nu',rfl,hB,Ha,Hk⟩,h3,_⟩;obtain ⟨F0,p0,q0,E1,d1,E2,d2,E3,d3,E4,d4,e0,rfl,rfl,rfl,rfl⟩:=Ha.is.forms;cases e0
  have HS:=mA (HS.out.lower h3 Hn);have HX:=mA (mB Ha.is Hk);obtain ⟨o0,o1,o2,o3,o4,o5,o6,o7,o8,o9⟩:=cz10 hB;have ol:=hB.lt;clear hB Ha Hk h3 s0 s1 sl;obtain ⟨z0,z1,z2,z3,z4,z5,z6,z7,z8,z9⟩:=cz10 HS.out.zb;have zz:=HS.out.zb.frozen;have zl:=HS.out.zb.lt;obtain ⟨⟨r0,r1,r2,r3,r4,r5,r6,r7,r8,r9⟩,hT⟩:=fin10 HS.out.zb HX.out.1 HX.out.2 HS.out.low (Nat.le_of_lt HS.out.lz) Hm rfl;have HT:=mA hT;clear hT;go_wp2
  refine bodyPost_ret (v:=.tuple #[.agg (rN rn E0 m0 d0 E1 d1 E2 d2 E3 d3 E4 d4),.slice Ao m1.length co,.int .i64 0]) (by simp [results,Tryz.results40,go_sem,r0,r1,r2,r3,r4,r5,r6,r7,r8,r9]) rfl ?_;have hh:=Prod.mk.inj Hb.out;exact zD5
 have Hr:(f1 != 0)=true:=by simpa using hf
 have Hs:(f1 == 0)=false:=by simpa using hf
 have hh:(Scu.replica0,[],f1)=(rr,ms,f):=by have h:=HH.out;unfold Scu.alarm at h;rw [HF.out,if_pos hf] at h;exact h
 clear hf;obtain ⟨z0,z1,z2,z3,z4,z5,z6,z7,z8,z9⟩:=cz10 HS.out.zb;have zz:=HS.out.zb.frozen;have zl:=HS.out.zb.lt;obtain ⟨⟨r0,r1,r2,r3,r4,r5,r6,r7,r8,r9⟩,hT⟩:=fin0 HS.out.zb HS.out.low (Nat.le_of_lt HS.out.lz);have HT:=mA hT;have Hb:=mA hh;clear hT hh;go_wp2
 refine bodyPost_ret (v:=.tuple #[.agg zR,.slice none 0 0,.int .i64 f1]) (by simp [results,Tryz.results40,go_sem,r0,r1,r2,r3,r4,r5,r6,r7,r8,r9]) rfl ?_;have hh:=Prod.mk.inj Hb.out;exact zE5
theorem no9 {rr:Scu.Replica} {ms:List Scu.Message} {f f9 x:Int} (h:(Scu.replica0,([]:List Scu.Message),x)=(rr,ms,f)) (h9:f=f9):f9=x/\rr=Scu.replica0/\ms=[]:=by
 have h':=Prod.mk.inj h;exact ⟨by rw [<- h9,<- (Prod.mk.inj h'.2).2],h'.1.symm,(Prod.mk.inj h'.2).1.symm⟩
theorem zC5 {P:Prop} (h:P:=by
 go_upto_region 9 with fail
 obtain ⟨z0,z1,z2,z3,z4,z5,z6,z7,z8,z9⟩:=cz10 HS.out.zb;have zz:=HS.out.zb.frozen;have zl:=HS.out.zb.lt;go_wp2
 obtain ⟨⟨r0,r1,r2,r3,r4,r5,r6,r7,r8,r9⟩,hT⟩:=fin0 HS.out.zb HS.out.low (Nat.le_of_lt HS.out.lz);refine bodyPost_ret (v:=.tuple #[.agg zR,.slice none 0 0,.int .i64 f9]) (by simp [results,Tryz.results35,go_sem,r0,r1,r2,r3,r4,r5,r6,r7,r8,r9,HN.out.1]) rfl ?_;rw [HN.out.2.1,HN.out.2.2,H9.out];exact ⟨zAs _ _ _,hT⟩):P:=h
theorem zXt (lv hv wv gv nv:Value) (r:Scu.Replica) (e:Scu.Str) (Hu:e.size<=R47) (w:World) (B:Nat) (hr:IsRep w B lv hv wv gv nv r) (rr:Scu.Replica) (ms:List Scu.Message) (f:Int) (h:Scu.take r e=(rr,ms,f)) :
 Calls Tryz.prog 35 #[.agg #[.int .i64 r.me,.int .i64 r.kept.view,.int .i64 r.kept.normal,.bool r.kept.calm,lv,.int .i64 r.kept.commit,hv,wv,gv,nv],.string e] w fun en w'=>TellN w.heap.size w' rr ms f en/\Below w.heap.size w w':=by
 have HE:=mA Hu;clear Hu;have HV:=mA hr;have HH:=mA h;obtain ⟨A0,n0,c0,A1,c1,A2,c2,A3,c3,A4,c4,rfl,rfl,rfl,rfl,rfl⟩:=hr.forms;clear hr h;obtain ⟨f1,Hv⟩:=mK (Scu.repFault r);have HF:=mA Hv;clear Hv;go_enter Tryz.func35,Tryz.ntmps35
 go_wp2_with fail
 have h0:Below w.heap.size w ((w.alloc (.cells (rN r A0 n0 c0 A1 c1 A2 c2 A3 c3 A4 c4) 47)).alloc (.cells zR 47)):=(zAa w _).alloc (by simp) _;refine (zBv _ _ _ _ _ r _ B (HV.out.below h0) f1 HF.out).mono ?_;rintro en w1 ⟨rfl,h1⟩;obtain ⟨gz,Hw⟩:=mK (w.heap.size+1);have HS:=mA (show RoS w w1 gz r (.slice A0 n0 c0) (.slice A1 r.have_.length c1) (.slice A2 r.wants.length c2) (.slice A3 r.gives.length c3) (.slice A4 r.given.length c4) from
  ⟨((Blk.new w _ _).alloc _).same h1,(Blk.new' (by simp;omega)).same h1,h0.trans (h1.mono h0.size),by omega⟩)
 rw [Hw];clear h1 h0 Hw;obtain ⟨f9,Hx⟩:=mK (f);have H9:=mA Hx;clear Hx;have Kf:n0=r.kept.log.length:=by obtain ⟨A',c',e,_⟩:=HV.out.log.ex;cases e;rfl
 subst Kf;obtain ⟨q,c,hq⟩:∃ q c,Scu.decode e=(q,c):=⟨_,_,rfl⟩;have HQ:=mA hq;clear hq;by_cases hf:f1=0
 case' neg =>
  have Kg:(f1 == 0)=false:=by simpa using hf
  have Kq:(f1 != 0)=true:=by simpa using hf
  have HN:=mA (show f9=f1/\rr=Scu.replica0/\ms=[] by have h:=HH.out;unfold Scu.take at h;rw [HF.out,if_pos hf] at h;exact no9 h H9.out);clear hf;exact zC5
 have Kg:(f1 == 0)=true:=by simpa using hf
 have Kh:=zBn (HF.out.trans hf);have Hn:r.kept.log.length<=60:=(Scu.keptFault_ok (Scu.repFault_ok (HF.out.trans hf)).2.2.2.2.2.2.2).2.2.2.2.2.1;obtain ⟨bl,Hy⟩:=mK (Scu.leads r);have Hg:=mA Hy;obtain ⟨s0,s1,s2,s3,s4,s5,s6,s7,s8,s9⟩:=cz10 HS.out.rb;have sl:=HS.out.rb.lt;have Ho:=mA (HF.out.trans hf);clear Hy hf;go_wp2_with fail
 refine (zEr _ _ _ _ _ r Kh _ bl Hg.out).mono ?_;rintro en w3 ⟨rfl,h3⟩;have HS:=mA (HS.out.below h3);clear h3 s0 s1 s2 s3 s4 s5 s6 s7 s8 s9 sl;obtain ⟨-,-,-,-,s4⟩:=cz5 HS.out.rb;have sl:=HS.out.rb.lt;cases bl
 case' false =>
  have HN:=mA (show f9=14/\rr=Scu.replica0/\ms=[] by have h:=HH.out;unfold Scu.take at h;rw [if_neg (by rw [Ho.out];simp),if_pos Hg.out] at h;exact no9 h H9.out);exact zC5
 by_cases Hb:r.kept.log.length=60
 case' pos =>
  have HN:=mA (show f9=7/\rr=Scu.replica0/\ms=[] by have h:=HH.out;unfold Scu.take at h;rw [if_neg (by rw [Ho.out];simp),if_neg (by rw [Hg.out];simp),if_pos Hb] at h;exact no9 h H9.out);have Hc:decide ((60:Int)<=(r.kept.log.length:Int))=true:=by simp;omega
  clear Hb;exact zC5
 have Hc:decide ((60:Int)<=(r.kept.log.length:Int))=false:=by simp;omega
 have Ki:=mA (show r.kept.log.length < 60 by omega);have hh:=HH.out;unfold Scu.take at hh;rw [if_neg (by rw [Ho.out];simp),if_neg (by rw [Hg.out];simp),if_neg Hb,HQ.out] at hh;have Hz:=mA hh;clear Hb Hn hh;go_wp2_with fail
 refine (zGz e _ q c HQ.out).mono ?_;rintro en w1 ⟨rfl,h4⟩;have HS:=mA (HS.out.below h4);clear h4 s4 sl Hc;by_cases hc:c=0
 case' neg =>
  have Kr:(c != 0)=true:=by simpa using hc
  have HN:=mA (show f9=c/\rr=Scu.replica0/\ms=[] by have h:=Hz.out;rw [if_pos hc] at h;exact no9 h H9.out);clear hc;exact zC5
 subst hc;have Kj:=mA (show ({ r with kept:={ r.kept with log:=r.kept.log ++ [e] } },Scu.leadOn { r with kept:={ r.kept with log:=r.kept.log ++ [e] } },(0:Int))=(rr,ms,f) by have h:=Hz.out;rw [if_neg (by simp)] at h;exact h);go_upto_region 10 with fail
 obtain ⟨s0,s1,s2,s3,s4,s5,s6,s7,s8,s9⟩:=cz10 HS.out.rb;have sl:=HS.out.rb.lt;go_wp2_with fail
 refine (zCs A0 _ c0 A1 c1 A2 c2 A3 r.gives.length c3 A4 c4 r _ B (HV.out.below HS.out.low)).mono ?_;rintro en w2 ⟨⟨lu,hu,wu,gu,nu,rfl,ho,Hp⟩,h2⟩;obtain ⟨E0,m0,d0,E1,d1,E2,d2,E3,d3,E4,d4,rfl,rfl,rfl,rfl,rfl⟩:=ho.is.forms;clear s0 s1 s2 s3 s4 s5 s6 s7 s8 s9;go_upto_region 11 with fail
 obtain ⟨Wc,Hh⟩:=mJ (w2.alloc (.cells (rN r E0 m0 d0 E1 d1 E2 d2 E3 d3 E4 d4) 47));rw [<- Hh];have Hi:Below w2.heap.size w2 Wc:=by rw [Hh];exact zAa _ _
 obtain ⟨base,Hd⟩:=mK (w1.heap.size);have Ka:w.heap.size<=base:=by rw [<- Hd];exact HS.out.low.size
 have Ks:gz < base:=by rw [<- Hd];exact HS.out.zb.lt
 rw [Hd] at ho Hp;have HC:=mA (show RWk Wc base w2.heap.size r (.slice E0 m0 d0) (.slice E1 r.have_.length d1) (.slice E2 r.wants.length d2) (.slice E3 r.gives.length d3) (.slice E4 r.given.length d4)/\ApG Wc base (.slice E3 r.gives.length d3) r.gives (.slice E0 m0 d0) from
  ⟨⟨by rw [Hh];exact Blk.new _ _ _,ho.below Hi,by rw [<- Hd];exact h2.size⟩,Hp.below Hi⟩)
 have HS:=mA (HS.out.below (h2.trans (Hi.mono h2.size)));obtain ⟨gc,Kb⟩:=mK (w2.heap.size);rw [Kb] at HC ⊢;clear Hh Hi ho Hp h2 sl Hd Kb;have Hj:m0=r.kept.log.length:=by obtain ⟨A',c',e,_⟩:=HC.out.1.own.is.log.ex;cases e;rfl
 subst Hj;have Hb:=Ki.out;obtain ⟨-,-,-,-,o4⟩:=cz5 HC.out.1.rb;have oz:=HC.out.1.rb.frozen;have ol:=HC.out.1.rb.lt;have Kt:=HC.out.1.base_le;have Hq:=mA HC.out.1.own.own.log.1;go_wp2_with (at_builtin;refine zAz _ rfl _ _ 39 rfl zBl base (.slice E0 r.kept.log.length d0) r.kept.log.length (r.kept.log.map Value.string) rfl (zAg Hq.out (zAa Wc (.cells #[.string e] 9))) (.slice (some ⟨Wc.heap.size,0,none⟩) 1 1) 1 [.string e] rfl ⟨rfl,.inr ⟨_,_,rfl,?e1⟩⟩ ?e2 (by unfold maxLen;omega) (by omega) (by simp;omega) ?_)
 case e1 =>
  intro j v hj;have Ku:j < 1:=by (rcases Nat.lt_or_ge j 1 with h | h;exact h;rw [List.getElem?_eq_none h] at hj;cases hj)
  have Hr:(⟨Wc.heap.size,0,none⟩:Addr).add j=⟨Wc.heap.size,j,none⟩:=by (unfold Addr.add;split <;> simp_all)
  rw [Hr];refine ((Blk.new Wc 9 #[.string e]).cell j).trans ?_;simpa using hj
 case e2=>(intro v hv;rw [List.mem_singleton] at hv;subst hv;rfl)
 intro v4 x4 h4 Hk _;have He:=zAa Wc (.cells #[.string e] 9);have hP:=HC.out.1.own.below He;have Hs:=hP.push_log (HC.out.2.below He) (by unfold R47;omega) HE.out h4 Hk;have Hl:Same [47] 0 (Wc.alloc (.cells #[.string e] 9)) x4:=Same.own hP.own.log.1 Hk (mE _) (by decide);have Hf:=mA (zAc (HC.out.1.rb.same He) Hl (by simp));have Kv:=HS.out.lz;have HS:=mA (show RoS w x4 gz r _ _ _ _ _ from
  have h:=HS.out.below He
  ⟨zAc h.rb Hl (by simp),zAc h.zb Hl (by simp),h.low.grown Hk h.low.size (fun q hq=>mD Ka (hP.own.log.1.lt q hq).1),h.lz⟩)
 obtain ⟨F0,q0,rfl,_,_,_,_⟩:=zAi h4;obtain ⟨m0,Hj⟩:=mJ (r.kept.log.length+1);rw [<- Hj] at Hs ⊢;have Kk:=mA Hs;clear h4 Hk Hs hP Hl He o4 oz ol Hj;obtain ⟨-,-,-,-,o4⟩:=cz5 Hf.out;have oz:=Hf.out.frozen;have ol:=Hf.out.lt;go_upto_region 12 with fail
 obtain ⟨Wv,Hm⟩:=mJ (x4.setCell ⟨gc,4,none⟩ (.slice F0 m0 q0));rw [<- Hm];have Kl:=HC.out.1.lr;have HC:=mA (mB (show RWk Wv base gc { r with kept:={ r.kept with log:=r.kept.log ++ [e] } } (.slice F0 m0 q0) (.slice E1 r.have_.length d1) (.slice E2 r.wants.length d2) (.slice E3 r.gives.length d3) (.slice E4 r.given.length d4) from by
  rw [Hm];exact ⟨Hf.out.set_ 4 _,Kk.out.same (Same.set_ Hf.out (mE _) (by decide) 4 _),Kl⟩) trivial)
 have HS:=mA (show RoS w Wv gz r _ _ _ _ _ from by
  rw [Hm];exact ⟨HS.out.rb.far (p:=⟨gc,4,none⟩) (by show w.heap.size≠gc;omega) _,HS.out.zb.far (p:=⟨gc,4,none⟩) (by show gz≠gc;omega) _,HS.out.low.setCell (p:=⟨gc,4,none⟩) (by show w.heap.size<=gc;omega) _,HS.out.lz⟩)
 clear Hm o4 oz ol;obtain ⟨E0,Kc⟩:=mJ (F0);obtain ⟨d0,Kd⟩:=mJ (q0);rw [<- Kc,<- Kd] at HC ⊢;clear Kc Kd;have Ha:Below Wv.heap.size Wv Wv.drew:=(mG _ _).drew;refine rgF (Below Wv.heap.size Wv) [3,4,5] [0,1] Ha ?_;iterate 2
  first
  | (refine tkc (v:=?_) rfl (Or.inl ⟨by rfl,?_⟩) ?_;rotate_left;(intro wv Km;(obtain ⟨o0,o1,o2,o3,o4,o5,o6,o7,o8,o9⟩:=cz10 (HC.out.1.rb.same Km));go_simp;with_reducible rfl);(try simp only [Act.put,zp1,zp2,zp3]))
 refine tkz (fun Kw=>?_);refine alF 2 (fun KA Kn=>?_);go_simp;refine ((zLj { r with kept:={ r.kept with log:=r.kept.log ++ [e] } } _ _ _ _ _ _ 0 (mE _) (HC.out.1.own.own.log.is.below Ha))).mono ?_;rintro en x1 ⟨⟨ov,css,rfl,hu⟩,k1⟩;obtain ⟨Ao,co,rfl⟩:=hu.form;have Ha:=Ha.trans k1;refine Kn _ _ ⟨.inr Ha,?_⟩;refine puT ?_;have HS:=mA (HS.out.below Ha);have HX:=mA (mB (HC.out.1.own.below Ha).is (hu.base_ (show base<=Wv.drew.heap.size from HC.out.1.base_le)));refine alF 3 (fun KB Ko=>?_);rw [if_pos (by rfl)];refine wp_store_mid 47 (.tmp 4) (.tmp 48) rfl gz 0 #[_,_,_,_,_,_,_,_,_,_] rfl rfl (zFv HS.out.zb) (by kernel_rfl) (by simp [Value.oneCell']) ?_;refine Ko _ _ ⟨.inl (by simp),genF fun Wf Ke=>?_⟩;have Kp:=mA Ke;clear Ke;refine puT ?_;refine alF 4 (fun KC Ht=>?_);go_simp;refine Ht _ _ ⟨.inl (by simp),?_⟩;refine puT ?_;refine alF 5 (fun KC Ht=>?_);go_simp;refine Ht _ _ ⟨.inl (by simp),?_⟩;refine puT ?_;refine zAe (by kernel_rfl) ?_ _;change Exit.then _ _ _ _ Wf;obtain ⟨⟨r0,r1,r2,r3,r4,r5,r6,r7,r8,r9⟩,hT⟩:=fin10 HS.out.zb HX.out.1 HX.out.2 HS.out.low (Nat.le_of_lt HS.out.lz) Ka Kp.out;have HT:=mA hT;clear hT;go_wp2
 refine bodyPost_ret (v:=.tuple #[.agg (rN r E0 m0 d0 E1 d1 E2 d2 E3 d3 E4 d4),.slice Ao (Scu.leadOn { r with kept:={ r.kept with log:=r.kept.log ++ [e] } }).length co,.int .i64 0]) (by simp [results,Tryz.results35,go_sem,r0,r1,r2,r3,r4,r5,r6,r7,r8,r9]) rfl ?_;have hh:=Prod.mk.inj Kj.out;exact zD5
end Go.Proofs.YtlngfbngnnepiaaGreat
