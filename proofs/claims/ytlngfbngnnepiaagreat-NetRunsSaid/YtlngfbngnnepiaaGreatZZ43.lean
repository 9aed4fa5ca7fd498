/- Part 43: words and walks under the laws of the whole. -/
import Derived.Test.YtlngfbngnnepiaaGreatZZ29
set_option linter.unusedVariables false
set_option linter.unusedSimpArgs false
set_option maxHeartbeats 4000000
set_option maxRecDepth 100000
namespace Go.Proofs.YtlngfbngnnepiaaGreat
open Go.RowKit
def zeroM:List Value:=[.int .i64 0,.int .i64 0,.int .i64 0,.int .i64 0,.int .i64 0,.int .i64 0,.int .i64 0,.slice none 0 0]
theorem zLo (w:World) (ty:TypeId) (g o c:Nat) (hc:∀ j,j < 8->(w.cell? ⟨g,o+j,none⟩).isSome=true) (hf:∀ j,j < 8->w.frozen? ⟨g,o+j,none⟩=false) :
 (Builtin.clear_ #[25] ty #[.slice (some ⟨g,o,none⟩) 1 c]).run Tryz.prog w=.ok (.tuple #[]) (w.setCells g o zeroM):=by
 have hz:∀ w,(zeroValue 99).run Tryz.prog w=.ok (.agg zeroM.toArray) w:=fun w=>by kernel_rfl
 have hl:(Builtin.zeroCells zeroM.toArray 1).toList=zeroM:=by kernel_rfl
 have Ha:=run_storeCells_cells (P:=Tryz.prog) g o zeroM 0 w (fun j hj=>by simpa using hc j hj) (fun j hj=>by simpa using hf j hj) (fun v hv=>by
  simp only [zeroM,List.mem_cons,List.not_mem_nil,or_false] at hv
  rcases hv with rfl | rfl | rfl | rfl | rfl | rfl | rfl | rfl <;> rfl)
 simp only [Nat.add_zero] at Ha
 have Hb:(Builtin.zeroCells (Value.agg zeroM.toArray).cells 1).toList=zeroM:=hl;simp [Builtin.clear_,run_underlying Tryz.underlying25,hz,Hb,Ha]
theorem zPk {w:World} {B:Nat} {css:List (List Value)} {ms:List Scu.Message} (hl:css.length=ms.length) (he:∀ (j:Nat) (cs:List Value) (x:Scu.Message),css[j]? = some cs->ms[j]? = some x->MsgE w B cs x):∀ u ∈ css.flatten,u.oneCell'=true:=by
 intro u hu;obtain ⟨cs,Ha,hu⟩:=List.mem_flatten.1 hu;obtain ⟨j,hj⟩:=List.getElem?_of_mem Ha;have Hb:j < ms.length:=by
  rcases Nat.lt_or_ge j css.length with h | h
  ·omega
  rw [List.getElem?_eq_none h] at hj;cases hj
 obtain ⟨lv,rfl,hs⟩:=he j cs _ hj (mH Hb);obtain ⟨A,n,c,rfl⟩:=hs.form;simp only [msgV,List.mem_cons,List.not_mem_nil,or_false] at hu
 rcases hu with rfl | rfl | rfl | rfl | rfl | rfl | rfl | rfl <;> rfl
theorem zJt (g c k:Nat) (ms:List Scu.Message) (css:List (List Value)) (w:World) (base:Nat) (h:OwnR 99 8 80 MsgE w base (.slice (some ⟨g,0,none⟩) ms.length c) ms css) (hk:k < ms.length) (hm:ms.length<=1000) :
 Calls Tryz.prog 55 #[.slice (some ⟨g,0,none⟩) ms.length c,.int .i64 k,.int .i64 ((k:Int)+1)] w fun e w'=>e=.returned (.slice (some ⟨g,0,none⟩) (ms.length - 1) c)/\w'=((w.drew).setCells g (k*8) (css.drop (k+1)).flatten).setCells g ((ms.length - 1)*8) zeroM:=by
 obtain ⟨hb,cur,hB⟩:=zBm h.row;obtain ⟨Hm,⟨h0,_⟩ | ⟨g',cap,cur',e,_,hh,Hr,Hs,He,Hj⟩⟩:=h.row
 ·cases h0
 cases e
 obtain ⟨news,Ha⟩:=mJ ((css.drop (k+1)).flatten);have Hk:∀ cs ∈ css.drop (k+1),cs.length=8:=fun cs He=>h.sz cs (List.mem_of_mem_drop He)
 have Hb:news.length=(ms.length - (k+1))*8:=by rw [Ha,zBo Hk,List.length_drop,h.len]
 have Hc:∀ j,j < ms.length*8->w.cell? ⟨g,j,none⟩=css.flatten[j]?:=fun j hj=>by
  have Hn:Blk w g 99 cur':=hh;rw [Hn.cell,<- Hj,List.getElem?_take_of_lt hj];simp
 have Hg:∀ j,w.frozen? ⟨g,j,none⟩=false:=fun j=>hB.frozen j
 have Hd:∀ j,j < ms.length*8->(w.cell? ⟨g,j,none⟩).isSome=true:=fun j hj=>by
  rw [Hc j hj,mH (by rw [zBo h.sz,h.len];exact hj)];rfl
 have Hh:css.flatten=(css.take (k+1)).flatten ++ news:=by rw [Ha,<- List.flatten_append,List.take_append_drop]
 have Hl:(css.take (k+1)).flatten.length=(k+1)*8:=by
  rw [zBo (fun cs He=>h.sz cs (List.mem_of_mem_take He)),List.length_take,h.len,Nat.min_eq_left (by omega)]
 obtain ⟨A,hA,Hi⟩:∃ A:Addr,(if c=k+1 then some (⟨g,0,none⟩:Addr) else some ⟨g,(k+1)*8,none⟩)=some A/\Hid (∀ t u,news[t]? = some u->w.drew.cell? (A.add t)=some u):=by
  by_cases hc:c=k+1
  ·refine ⟨⟨g,0,none⟩,by simp [hc],fun t u hu=>?_⟩;have:news.length=0:=by rw [Hb];omega
   rw [List.length_eq_zero_iff.1 this] at hu;simp at hu
  refine ⟨⟨g,(k+1)*8,none⟩,by simp [hc],fun t u hu=>?_⟩;have ht:t < news.length:=(List.getElem?_eq_some_iff.1 hu).1;rw [Addr.add_lit];show w.cell? _=_
  rw [Hc _ (by rw [Hb] at ht;omega),Hh,List.getElem?_append_right (by omega),Hl,show (k+1)*8+t - (k+1)*8=t by omega];exact hu
 have s1:Hid (news.length=(ms.length - (k+1))*8):=Hb;have s2:Hid (∀ u ∈ news,u.oneCell'=true):=fun u hu=>zPk h.len h.each u (by rw [Hh];exact List.mem_append_right _ hu)
 have s3:Hid (∀ t,t < news.length->(w.drew.cell? ⟨g,0+k*8+t,none⟩).isSome=true/\w.drew.frozen? ⟨g,0+k*8+t,none⟩=false):=fun t ht=>by
  rw [Hb] at ht;rw [Nat.zero_add];exact ⟨Hd _ (by omega),Hg _⟩
 obtain ⟨i0,z0,Ho,Ht,Hp,Hu,Hv⟩:=zCr.2.2;obtain ⟨W1,Hf⟩:=mJ (w.drew.setCells g (0+k*8) news);have e1:k+(ms.length - (k+1))=ms.length - 1:=by omega
 have e2:ms.length - (k+(ms.length - (k+1)))=1:=by omega
 have Hw:∀ ty,(Builtin.clear_ #[25] ty #[.slice (some ⟨g,(k+(ms.length - (k+1)))*8,none⟩) (ms.length - (k+(ms.length - (k+1)))) (c - (k+(ms.length - (k+1))))]).run Tryz.prog W1=.ok (.tuple #[]) (W1.setCells g ((ms.length - 1)*8) zeroM):=fun ty=>by
  rw [e2,e1];exact zLo W1 ty g _ _ (fun j hj=>by
   rw [Hf];exact World.isSome_setCells g news _ _ _ (Hd _ (by omega))) (fun j hj=>by rw [Hf,World.frozen?_setCells];exact Hg _)
 have E1:=mA e1;clear e1 e2;have hW:Hid (W1=w.drew.setCells g (0+k*8) news):=Hf;have hN:Hid (news=(css.drop (k+1)).flatten):=Ha;have Hx:k<=c:=by omega
 have Hq:k+1<=c:=by omega
 have Hy:(0:Int)<=(k:Int)+1:=by omega
 have Hz:(k:Int)+1<=(ms.length:Int):=by omega
 have Ka:((k:Int) == (k:Int)+1)=false:=by rw [beq_eq_false_iff_ne];omega
 clear Hf Ha Hb Hc Hg Hd Hh Hl Hj He hB hh Hm Hk;go_enter Tryz.func55,Tryz.ntmps55
 go_wp2_with fail
 go_region_law (refine step_append_room rfl (.tmp 22) (.tmp 25) 25 rfl 99 i0 8 Tryz.underlying25 Ho Hp g 0 k c (by simp [Act.eval,Act.put]) A (ms.length - (k+1)) (c - (k+1)) news (by simp [Act.eval,Act.put]) s1.out Hi.out s2.out (by omega) s3.out ?_;rw [<- hW.out])
 go_wp2
 go_ret
 exact ⟨zAb (congrArg (fun n=>Value.slice (some ⟨g,0,none⟩) n c) E1.out),by rw [hW.out,hN.out,Nat.zero_add]⟩
theorem zSt {Wd X:World} {gb:Nat} {m:Scu.Message} {Al:Option Addr} {nl cl:Nat} {b0 b1 b2 b3 b4 b5 b6 b7:Value} (h1:IsStrs Wd 0 (.slice Al nl cl) m.log) (hX:Below Wd.heap.size Wd X) (hB:Blk X gb 99 #[b0,b1,b2,b3,b4,b5,b6,b7]) (hg:Wd.heap.size<=gb) :
 Below Wd.heap.size Wd (X.setCells gb 0 [.int .i64 m.kind,.int .i64 m.from_,.int .i64 m.tq,.int .i64 m.view,.int .i64 m.normal,.int .i64 m.commit,.int .i64 m.n,.slice Al nl cl])/\Blk (X.setCells gb 0 [.int .i64 m.kind,.int .i64 m.from_,.int .i64 m.tq,.int .i64 m.view,.int .i64 m.normal,.int .i64 m.commit,.int .i64 m.n,.slice Al nl cl]) gb 99 #[.int .i64 m.kind,.int .i64 m.from_,.int .i64 m.tq,.int .i64 m.view,.int .i64 m.normal,.int .i64 m.commit,.int .i64 m.n,.slice Al nl cl]/\IsStrs (X.setCells gb 0 [.int .i64 m.kind,.int .i64 m.from_,.int .i64 m.tq,.int .i64 m.view,.int .i64 m.normal,.int .i64 m.commit,.int .i64 m.n,.slice Al nl cl]) 0 (.slice Al nl cl) m.log:=by
 have hs:Same [9] 0 X (X.setCells gb 0 [.int .i64 m.kind,.int .i64 m.from_,.int .i64 m.tq,.int .i64 m.view,.int .i64 m.normal,.int .i64 m.commit,.int .i64 m.n,.slice Al nl cl]):=Same.sets _ 0 X _ hB (by decide);exact ⟨zAr hg _ 0 _ _ hX,zHu (xs:=[b0,b1,b2,b3,b4,b5,b6,b7]) hB rfl,(h1.below hX).same (by simp) hs⟩
theorem NetG.farMsg {s:Bool} {w:World} {base gx g i:Nat} {x:Scu.Net} {rv sv fv cv tv:Value} {cs:Array Value} (h:NetG s w base gx x rv sv fv cv tv) (hB:Blk w g 99 cs) (Ha:fv.ownBlock≠some g) (hg:base<=g) (u:Value) :
 NetG s (w.setCell ⟨g,i,none⟩ u) base gx x rv sv fv cv tv/\Fr base w (w.setCell ⟨g,i,none⟩ u):=by
 have hs:Same [NT s,47,39,55,71,9,3,4,42,30,31] 0 w (w.setCell ⟨g,i,none⟩ u):=Same.set_ hB (mE _) (by cases s <;> decide) i u;obtain ⟨css,hf⟩:=h.fly;exact ⟨⟨zAc h.box hs (by simp),zCa h.reps hs (by simp) (by simp),zBp h.slots hs (by simp) (by simp),⟨css,hf.len,hf.sz,zGp hf.row (p:=⟨g,i,none⟩) Ha u,fun j cs y a b=>(hf.each j cs y a b).same (Ts:=[9]) (by simp) (hs.mono (by simp) (mC _)),hf.max⟩,zCl h.cust hs (by simp),zCc h.told hs (by simp),h.lx⟩,
  (mG base w).setCell (p:=⟨g,i,none⟩) hg u,hs.mono (by simp) (mC _)⟩
theorem NetG.delFly {s:Bool} {w:World} {base gx g c k:Nat} {x:Scu.Net} {rv sv cv tv:Value} {css:List (List Value)} (h:NetG s w base gx x rv sv (.slice (some ⟨g,0,none⟩) x.flying.length c) cv tv) (hf:OwnR 99 8 80 MsgE w base (.slice (some ⟨g,0,none⟩) x.flying.length c) x.flying css) (hk:k < x.flying.length) {W:World} (hW:W=(w.setCells g (k*8) (css.drop (k+1)).flatten).setCells g ((x.flying.length - 1)*8) zeroM) :
 NetG s (W.setCell ⟨gx,2,none⟩ (.slice (some ⟨g,0,none⟩) (x.flying.length - 1) c)) base gx { x with flying:=x.flying.eraseIdx k } rv sv (.slice (some ⟨g,0,none⟩) (x.flying.length - 1) c) cv tv/\Fr base w (W.setCell ⟨gx,2,none⟩ (.slice (some ⟨g,0,none⟩) (x.flying.length - 1) c)) /\
  Blk W gx (NT s) #[rv,sv,(.slice (some ⟨g,0,none⟩) x.flying.length c),cv,tv]/\(∀ q:Addr,q.block≠g->W.cell? q=w.cell? q)/\Below base w W/\Same [9] 0 w W:=by
 subst hW;obtain ⟨hb,cur,hB⟩:=zBm hf.row;obtain ⟨cur2,He⟩:=zOx (css.drop (k+1)).flatten (k*8) w cur hB;have hs:Same [NT s,47,39,55,71,9,3,4,42,30,31] 0 w ((w.setCells g (k*8) (css.drop (k+1)).flatten).setCells g ((x.flying.length - 1)*8) zeroM) :=
  (Same.sets _ _ w cur hB (by cases s <;> decide)).trans (Same.sets zeroM _ _ cur2 He (by cases s <;> decide))
 have he:=hf.erase hk zeroM rfl (fun _ _ hx=>hx.same (Ts:=[9]) (by simp) (hs.mono (by simp) (mC _)));have Ha:=zAc h.box hs (by simp);have Hc:Same [47,39,99,55,71,9,3,4,42,30,31] 0 ((w.setCells g (k*8) (css.drop (k+1)).flatten).setCells g ((x.flying.length - 1)*8) zeroM) _:=Same.set_ Ha (mE _) (by cases s <;> decide) 2 (.slice (some ⟨g,0,none⟩) (x.flying.length - 1) c);have Hb:Same [47,39,55,71,9,3,4,42,30,31] 0 w _:=(hs.mono (by simp) (mC _)).trans (Hc.mono (by simp) (mC _));have Hd:Below base w ((w.setCells g (k*8) (css.drop (k+1)).flatten).setCells g ((x.flying.length - 1)*8) zeroM):=zAr hb _ _ _ _ (zAr hb _ _ _ _ (mG _ _));refine ⟨⟨Ha.set_ 2 _,zCa h.reps Hb (by simp) (by simp),zBp h.slots Hb (by simp) (by simp),zDs ⟨_,he⟩ Hc (by simp) (by simp),zCl h.cust Hb (by simp),zCc h.told Hb (by simp),h.lx⟩,⟨Hd.setCell (p:=⟨gx,2,none⟩) h.lx _,Hb.mono (by simp) (mC _)⟩,Ha,fun q hq=>?_,Hd,hs.mono (by simp) (mC _)⟩;rw [zFr hq,zFr hq]
end Go.Proofs.YtlngfbngnnepiaaGreat
