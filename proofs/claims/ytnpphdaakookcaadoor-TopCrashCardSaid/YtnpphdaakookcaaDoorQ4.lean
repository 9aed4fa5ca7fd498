/- Part 4: words and walks under the laws of the whole. -/
import Derived.Test.YtnpphdaakookcaaDoorQ3
set_option linter.unusedVariables false
set_option linter.unusedSimpArgs false
set_option maxHeartbeats 4000000
set_option maxRecDepth 100000
namespace Scu
def lastOf (s:State) (c:Int):Last:=s.lasts.getD (c - 1).toNat last0
def InC (c:Int):Prop:=1<=c/\c<=4
theorem zEc {s:State} {r:Request} {c:Int} (h:stateFault s=0) (hr:reqFault r=0) (hc:InC c) :
 lastOf (applyIt s r) c=if r.client=c/\(lastOf s c).num < r.num then ⟨r.num,(doIt s.volume r.op).2⟩ else lastOf s c:=by
 have hl:=(lastsOk_iff.1 (stateFault_iff.1 h).1).1
 have hq:=reqFault_ok hr
 unfold InC at hc
 unfold applyIt
 by_cases he:r.client=c
 ·subst he
  by_cases hn:r.num<=(s.lasts.getD (r.client - 1).toNat last0).num
  ·rw [if_pos hn,if_neg (by unfold lastOf;omega)]
  rw [if_neg hn,if_pos ⟨rfl,by unfold lastOf;omega⟩]
  unfold lastOf
  have:(r.client - 1).toNat < s.lasts.length:=by omega
  show (s.lasts.set (r.client - 1).toNat _).getD (r.client - 1).toNat last0=_
  rw [mI,List.getElem?_set_self this]
  rfl
 rw [if_neg (show ¬ (r.client=c/\(lastOf s c).num < r.num) from fun h=>he h.1)]
 by_cases hn:r.num<=(s.lasts.getD (r.client - 1).toNat last0).num
 ·rw [if_pos hn]
 rw [if_neg hn]
 unfold lastOf
 have:(r.client - 1).toNat≠(c - 1).toNat:=by omega
 show (s.lasts.set (r.client - 1).toNat _).getD (c - 1).toNat last0=_
 rw [mI,List.getElem?_set_ne this,<- mI]
theorem zSb {α:Type} {P:List α->Prop} (h0:P []) (h1:∀ l a,P l->P (l ++ [a])):∀ l,P l:=by
 intro l
 have:∀ r:List α,P r.reverse:=by
  intro r
  induction r with
  | nil=>exact h0
  | cons a r ih=>rw [List.reverse_cons];exact h1 _ _ ih
 have:=this l.reverse
 rwa [List.reverse_reverse] at this
theorem AllOk.left {P Q:List Str} (h:AllOk (P ++ Q)):AllOk P:=fun e he=>h e (List.mem_append_left _ he)
theorem AllOk.last {P:List Str} {e:Str} (h:AllOk (P ++ [e])):(decode e).2=0:=h e (List.mem_append_right _ (List.mem_singleton.2 rfl))
theorem zPf {c:Int} (hc:InC c):∀ P:List Str,AllOk P->(∀ e ∈ P,(decode e).1.client=c->(decode e).1.num<=(lastOf (played P) c).num) /\
 ∀ n:Int,0<=n->(∀ e ∈ P,(decode e).1.client=c->(decode e).1.num<=n)->(lastOf (played P) c).num<=n:=by
 refine zSb ?_ ?_
 ·intro _
  refine ⟨fun e he=>by simp at he,fun n hn _=>?_⟩
  have:lastOf (played []) c=last0:=by
   have h4:c=1\/c=2\/c=3\/c=4:=by unfold InC at hc;omega
   rcases h4 with rfl | rfl | rfl | rfl <;> rfl
  rw [this]
  exact hn
 intro P e ih hP
 obtain ⟨ih1,ih2⟩:=ih hP.left
 have Hc:=(zHi hP.left).2
 have hd:=hP.last
 rw [zGb,zEc Hc (zCq hd) hc]
 refine ⟨fun x hx Hb=>?_,fun n hn Ha=>?_⟩
 ·rcases List.mem_append.1 hx with hx | hx
  ·have:=ih1 x hx Hb
   split
   ·show _<=(decode e).1.num;omega
   exact this
  simp only [List.mem_singleton] at hx
  subst hx
  split
  ·exact Int.le_refl _
  rename_i hn
  have:¬ (lastOf (played P) c).num < (decode x).1.num:=fun h=>hn ⟨Hb,h⟩
  omega
 have:=ih2 n hn fun x hx=>Ha x (List.mem_append_left _ hx)
 split
 ·rename_i h;exact Ha e (List.mem_append_right _ (List.mem_singleton.2 rfl)) h.1
 exact this
theorem zQr {c:Int} (hc:InC c) (n:Int) (hn:1<=n):∀ P:List Str,AllOk P->(∀ e ∈ P,(decode e).1.client=c->(decode e).1.num<=n)->(lastOf (played P) c).num=n ->
 ∃ k e,P[k]? = some e/\(decode e).1.client=c/\(decode e).1.num=n/\(∀ j x,j < k->P[j]? = some x->¬ ((decode x).1.client=c/\(decode x).1.num=n))/\lastOf (played (P.take (k+1))) c=lastOf (played P) c:=by
 refine zSb ?_ ?_
 ·intro _ _ h
  have:=(zPf hc [] (fun e he=>by simp at he)).2 0 (by omega) (fun e he=>by simp at he)
  omega
 intro P e ih hP Ha hl
 have He:=(zHi hP.left).2
 have hd:=hP.last
 have Hb:=zPf hc P hP.left
 rw [zGb,zEc He (zCq hd) hc] at hl
 by_cases hx:(decode e).1.client=c/\(lastOf (played P) c).num < (decode e).1.num
 ·rw [if_pos hx] at hl
  have Hc:(decode e).1.num=n:=hl
  refine ⟨P.length,e,by simp,hx.1,Hc,fun j x hj Hf Hd=>?_,by rw [List.take_of_length_le (by simp)]⟩
  rw [List.getElem?_append_left hj] at Hf
  have:=Hb.1 x (List.mem_of_getElem? Hf) Hd.1
  omega
 rw [if_neg hx] at hl
 obtain ⟨k,x,h1,h2,h3,h4,h5⟩:=ih hP.left (fun y hy=>Ha y (List.mem_append_left _ hy)) hl
 have hk:k < P.length:=by
  rcases Nat.lt_or_ge k P.length with h | h
  ·exact h
  rw [List.getElem?_eq_none h] at h1;cases h1
 refine ⟨k,x,by rw [List.getElem?_append_left hk];exact h1,h2,h3,fun j y hj hy=>h4 j y hj (by rwa [List.getElem?_append_left (by omega)] at hy),?_⟩
 rw [List.take_append_of_le_length (by omega),h5,zGb,zEc He (zCq hd) hc,if_neg hx]
def Asked (Q:List (Request × Nat)) (e:Str):Prop:=∃ q ∈ Q,reqFault q.1=0/\e=reqBytes q.1
def isReq (r:Request) (s:Str):Bool:=decide (decode s=(r,0))
def placeOf (l:List Str) (r:Request):Nat:=l.findIdx (isReq r)
def cAt (x:Net) (c:Nat):Customer:=x.clients.getD c cust0
structure ToldOk (C:List Str) (t:Told):Prop where
 place:placeOf C t.request < C.length
 client:InC t.request.client
 num:1<=t.request.num
 is:play (C.take (placeOf C t.request+1))=(played (C.take (placeOf C t.request+1)),0)/\lastOf (played (C.take (placeOf C t.request+1))) t.request.client=⟨t.request.num,t.reply⟩
structure HistOk (Q:List (Request × Nat)) (x:Net):Prop where
 few:x.clients.length<=4
 cid:∀ c:Nat,c < x.clients.length->(cAt x c).id=c+1/\1<=(cAt x c).next
 wait:∀ c:Nat,c < x.clients.length->(cAt x c).wait.num=0\/(∃ m,((cAt x c).wait,m) ∈ Q)/\(cAt x c).wait.client=c+1/\(cAt x c).wait.num=(cAt x c).next - 1/\1<=(cAt x c).wait.num
 mem:∀ q ∈ Q,∃ c:Nat,c < x.clients.length/\q.1.client=c+1/\1<=q.1.num/\q.1.num < (cAt x c).next
 uniq:∀ q ∈ Q,∀ q' ∈ Q,q.1.client=q'.1.client->q.1.num=q'.1.num->q=q'
 late:∀ q ∈ Q,q.2<=(committed x.replicas).length/\∀ e ∈ (committed x.replicas).take q.2,¬ decode e=(q.1,0)
 told:∀ t ∈ x.told,ToldOk (committed x.replicas) t
theorem zFw {α:Type} {p:α->Bool} {a b:List α} (h:a <+: b) (Ha:a.findIdx p < a.length):b.findIdx p=a.findIdx p:=by
 obtain ⟨t,rfl⟩:=h
 rw [List.findIdx_append,if_pos Ha]
theorem ToldOk.mono {C C':List Str} {t:Told} (h:ToldOk C t) (hp:C <+: C'):ToldOk C' t:=by
 have hl:=hp.length_le
 have e:placeOf C' t.request=placeOf C t.request:=zFw hp h.place
 have Ha:=h.place
 have ht:C'.take (placeOf C t.request+1)=C.take (placeOf C t.request+1):=zEa hp (by omega)
 exact ⟨by rw [e];omega,h.client,h.num,by rw [e,ht];exact h.is⟩
theorem zLh (x:Net) (r:Nat):(crash x r).1.clients=x.clients/\(crash x r).1.told=x.told:=by
 unfold crash
 simp only []
 split <;> exact ⟨rfl,rfl⟩
theorem zEi (x:Net) (r:Nat) (next:Replica) (out:List Message) (upto:Int):(settle x r next out upto).1.clients=x.clients/\(settle x r next out upto).1.told=x.told:=by
 unfold settle
 split
 ·exact ⟨rfl,rfl⟩
 simp only []
 split
 ·exact ⟨rfl,rfl⟩
 split
 ·exact zLh _ _
 exact ⟨rfl,rfl⟩
def askIt (x:Net) (a:Act):Net:={ x with clients:=x.clients.set a.c.toNat ⟨(cAt x a.c.toNat).id,(cAt x a.c.toNat).next+1,⟨(cAt x a.c.toNat).id,(cAt x a.c.toNat).next,a.op⟩⟩ }
def tellIt (x:Net) (a:Act):Net :=
 { x with told:=x.told ++ [⟨(cAt x a.c.toNat).wait,((play (comOf (repAt x a.r))).1.lasts.getD ((cAt x a.c.toNat).id - 1).toNat last0).reply⟩],
          clients:=x.clients.set a.c.toNat { cAt x a.c.toNat with wait:=req0 } }
theorem zJa (x:Net) (a:Act) :
 ((act x a).1.clients=x.clients/\(act x a).1.told=x.told/\¬ ((act x a).2=0/\(a.kind=1\/a.kind=3))) \/
 (a.kind=1/\0<=a.c/\a.c < x.clients.length/\¬ 0 < (cAt x a.c.toNat).wait.num/\opFault a.op=0/\act x a=(askIt x a,0)) \/
 (a.kind=3/\0<=a.c/\a.c < x.clients.length/\(cAt x a.c.toNat).wait.num≠0/\InR a.r/\leads (repAt x a.r)=true/\(play (comOf (repAt x a.r))).2=0 /\
  ((play (comOf (repAt x a.r))).1.lasts.getD ((cAt x a.c.toNat).id - 1).toNat last0).num=(cAt x a.c.toNat).wait.num/\act x a=(tellIt x a,0)):=by
 unfold act
 split
 ·rename_i hk
  unfold actBy
  split
  ·refine .inl ⟨rfl,rfl,fun h=>by simp at h⟩
  rename_i hc
  simp only []
  split
  ·rename_i h1
   split
   ·exact .inl ⟨rfl,rfl,fun h=>by simp at h⟩
   split
   ·rename_i ho
    exact .inl ⟨rfl,rfl,fun h=>ho h.1⟩
   rename_i hw ho
   exact .inr (.inl ⟨h1,by omega,by omega,hw,by omega,rfl⟩)
  rename_i h1
  split
  ·exact .inl ⟨rfl,rfl,fun h=>by simp at h⟩
  rename_i hw
  split
  ·exact .inl ⟨rfl,rfl,fun h=>by simp at h⟩
  rename_i hr
  split
  ·rename_i h3
   unfold answer
   simp only []
   split
   ·exact .inl ⟨rfl,rfl,fun h=>by simp at h⟩
   rename_i hl
   split
   ·rename_i hp
    exact .inl ⟨rfl,rfl,fun h=>hp h.1⟩
   rename_i hp
   split
   ·exact .inl ⟨rfl,rfl,fun h=>by simp at h⟩
   rename_i hn
   refine .inr (.inr ⟨h3,by omega,by omega,hw,zRz hr,(by cases Ha:leads (repAt x a.r) with
    | true=>rfl
    | false=>exact absurd Ha hl),?_,?_,rfl⟩)
   ·exact Classical.byContradiction hp
   exact Classical.byContradiction hn
  rename_i h3
  have hn:∀ z:Net × Int,¬ (z.2=0/\(a.kind=1\/a.kind=3)):=fun z h=>by
   rcases h.2 with h | h
   ·exact h1 h
   exact h3 h
  split
  ·exact .inl ⟨rfl,rfl,hn (x,_)⟩
  split
  ·exact .inl ⟨rfl,rfl,hn (x,_)⟩
  exact .inl ⟨(zEi _ _ _ _ _).1,(zEi _ _ _ _ _).2,hn _⟩
 rename_i hk
 have hn:∀ z:Net × Int,¬ (z.2=0/\(a.kind=1\/a.kind=3)):=fun z h=>by
  rcases h.2 with h | h
  ·exact hk (.inl h)
  exact hk (.inr (.inr h))
 refine .inl ?_
 split
 ·refine ⟨?_,?_,hn _⟩
  all_goals
   unfold actAt
   simp only []
   split
   ·rfl
   split
   ·first | exact (zLh _ _).1 | exact (zLh _ _).2
   generalize (if a.kind=5 then alarm (x.replicas.getD a.r.toNat replica0) else tick (x.replicas.getD a.r.toNat replica0))=q
   split
   ·rfl
   ·first | exact (zEi _ _ _ _ _).1 | exact (zEi _ _ _ _ _).2
 split
 ·refine ⟨?_,?_,hn _⟩
  all_goals
   unfold actMessage
   simp only []
   split
   ·rfl
   split
   ·split <;> rfl
   split
   ·rfl
   split
   ·rfl
   split
   ·rfl
   ·first | exact (zEi _ _ _ _ _).1 | exact (zEi _ _ _ _ _).2
 exact ⟨rfl,rfl,hn _⟩
theorem zGc {A:Str->Prop} {G:Gh} {x:Net} (h:NetOk A G x) {r:Replica} (hr:r ∈ x.replicas):∀ e ∈ comOf r,A e/\(decode e).2=0:=by
 obtain ⟨i,hi,rfl⟩:=zIy h hr
 intro e he
 have hk:=(h.rep i hi).kept
 have hl:e ∈ (repAt x i).kept.log:=List.mem_of_mem_take he
 exact ⟨h.ent _ hk.st e (hk.hi.subset hl),(keptFault_ok (repFault_ok (h.fault i hi)).2.2.2.2.2.2.2).2.2.2.2.2.2.2.2 e hl⟩
theorem zEj {A:Str->Prop} {G:Gh} {x:Net} (h:NetOk A G x):∀ e ∈ committed x.replicas,A e/\(decode e).2=0:=by
 obtain ⟨h1,_,_⟩:=zBf x.replicas [] fun r hr=>(zBi h hr).2
 intro e he
 have Ha:e ∈ x.replicas.foldl comStep []:=he
 rcases h1 with h1 | ⟨r,hr,h1⟩
 ·rw [h1] at Ha;simp at Ha
 rw [h1] at Ha;exact zGc h hr e Ha
theorem zGd {x:Net} {cl:List Customer} {c d:Nat} {u:Customer} (hd:d < x.clients.length) (Ha:cl=x.clients.set d u) {y:Net} (hy:y.clients=cl):cAt y c=if c=d then u else cAt x c:=by
 unfold cAt
 rw [hy,Ha]
 by_cases e:c=d
 ·subst e;simp [mI,hd]
 have:d≠c:=fun h=>e h.symm
 simp [mI,List.getElem?_set_ne this,e]
theorem zFg {Q:List (Request × Nat)} {e:Str} (h:Asked Q e):∃ q ∈ Q,decode e=(q.1,0):=by
 obtain ⟨q,hq,hf,rfl⟩:=h
 exact ⟨q,hq,zIm hf⟩
theorem zSc {Q:List (Request × Nat)} {G:Gh} {x:Net} (h:NetOk (Asked Q) G x) (hh:HistOk Q x) (a:Act) :
 ∃ Q' G',(∀ q ∈ Q,q ∈ Q')/\NetOk (Asked Q') G' (act x a).1/\HistOk Q' (act x a).1/\committed x.replicas <+: committed (act x a).1.replicas /\
  (a.kind=1->(act x a).2=0->((cAt (act x a).1 a.c.toNat).wait,(committed x.replicas).length) ∈ Q'):=by
 have hA:∀ c ∈ x.clients,reqFault c.wait=0->Asked Q (reqBytes c.wait):=by
  intro c hc hf
  obtain ⟨n,hn,rfl⟩:=List.getElem_of_mem hc
  have e:cAt x n=x.clients[n]:=by unfold cAt;rw [mI,mH hn];rfl
  rcases hh.wait n hn with h0 | ⟨⟨m,hm⟩,_⟩
  ·rw [e] at h0
   have:=(reqFault_ok hf).2.2.1
   omega
  rw [e] at hm
  exact ⟨_,hm,hf,rfl⟩
 have Hh:=yAk h hA a
 have Ha:=zOc h Hh
 rcases zJa x a with ⟨hc,ht,Hy⟩ | ⟨hk,Hz,Ka,hw,ho,he⟩ | ⟨hk,Hz,Ka,hw,hr,hl,hp,hn,he⟩
 ·obtain ⟨_,G',_,h',_⟩:=Hh
  refine ⟨Q,G',fun q hq=>hq,h',?_,Ha,fun h1 h2=>(Hy ⟨h2,.inl h1⟩).elim⟩
  have ec:∀ c,cAt (act x a).1 c=cAt x c:=fun c=>by unfold cAt;rw [hc]
  exact { few:=by rw [hc];exact hh.few,cid:=fun c Hb=>by rw [ec];rw [hc] at Hb;exact hh.cid c Hb,wait:=fun c Hb=>by rw [ec];rw [hc] at Hb;exact hh.wait c Hb,
          mem:=fun q hq=>by
           obtain ⟨c,h1,h2⟩:=hh.mem q hq
           exact ⟨c,by rw [hc];exact h1,by rw [ec];exact h2⟩,
          uniq:=hh.uniq,
          late:=fun q hq=>by
           obtain ⟨h1,h2⟩:=hh.late q hq
           exact ⟨mD h1 Ha.length_le,by rw [zEa Ha h1];exact h2⟩,
          told:=fun t Hd=>by rw [ht] at Hd;exact (hh.told t Hd).mono Ha }
 ·rw [he] at Ha ⊢
  have Hb:a.c.toNat < x.clients.length:=by omega
  have Hi:=hh.cid _ Hb
  refine ⟨(⟨(cAt x a.c.toNat).id,(cAt x a.c.toNat).next,a.op⟩,(committed x.replicas).length) :: Q,G,fun q hq=>List.mem_cons_of_mem _ hq,?_,?_,Ha,fun _ _=>by
   show ((cAt (askIt x a) a.c.toNat).wait,_) ∈ _
   rw [zGd (cl:=(askIt x a).clients) Hb rfl rfl,if_pos rfl]
   exact List.mem_cons_self⟩
  ·refine (h.besides (x':=askIt x a) rfl rfl h.fly).mono ?_
   rintro e ⟨q,hq,h1,h2⟩
   exact ⟨q,List.mem_cons_of_mem _ hq,h1,h2⟩
  have ec:∀ c,cAt (askIt x a) c=if c=a.c.toNat then ⟨(cAt x a.c.toNat).id,(cAt x a.c.toNat).next+1,⟨(cAt x a.c.toNat).id,(cAt x a.c.toNat).next,a.op⟩⟩ else cAt x c:=fun c=>zGd Hb rfl rfl
  have el:(askIt x a).clients.length=x.clients.length:=by simp [askIt]
  have er:(askIt x a).replicas=x.replicas:=rfl
  have eno:∀ e ∈ committed x.replicas,¬ decode e=((⟨(cAt x a.c.toNat).id,(cAt x a.c.toNat).next,a.op⟩:Request),(0:Int)):=by
   intro e Hg hd
   obtain ⟨q,hq,Hq⟩:=zFg (zEj h e Hg).1
   rw [hd] at Hq
   simp only [Prod.mk.injEq,and_true] at Hq
   obtain ⟨c,h1,h2,h3,h4⟩:=hh.mem q hq
   rw [<- Hq] at h2 h4
   have Kf:(cAt x a.c.toNat).id=(c:Int)+1:=h2
   have:c=a.c.toNat:=by omega
   subst this
   have Kg:(cAt x a.c.toNat).next < (cAt x a.c.toNat).next:=h4
   omega
  exact {
   few:=by rw [el];exact hh.few
   cid:=fun c Hc=>by
    rw [el] at Hc
    rw [ec]
    split
    ·rename_i e';subst e';exact ⟨Hi.1,by show 1<=(cAt x a.c.toNat).next+1;omega⟩
    exact hh.cid c Hc
   wait:=fun c Hc=>by
    rw [el] at Hc
    rw [ec]
    split
    ·rename_i e';subst e'
     exact .inr ⟨⟨_,List.mem_cons_self⟩,Hi.1,by show (cAt x a.c.toNat).next=(cAt x a.c.toNat).next+1 - 1;omega,Hi.2⟩
    rcases hh.wait c Hc with h0 | ⟨⟨m,hm⟩,h1⟩
    ·exact .inl h0
    exact .inr ⟨⟨m,List.mem_cons_of_mem _ hm⟩,h1⟩
   mem:=fun q hq=>by
    rcases List.mem_cons.1 hq with rfl | hq
    ·refine ⟨a.c.toNat,by rw [el];exact Hb,Hi.1,Hi.2,?_⟩
     rw [ec,if_pos rfl]
     show (cAt x a.c.toNat).next < (cAt x a.c.toNat).next+1
     omega
    obtain ⟨c,h1,h2,h3,h4⟩:=hh.mem q hq
    refine ⟨c,by rw [el];exact h1,h2,h3,?_⟩
    rw [ec]
    split
    ·rename_i e';subst e';show q.1.num < (cAt x a.c.toNat).next+1;omega
    exact h4
   uniq:=fun q hq q' Hm hc Hk=>by
    have key:∀ p ∈ Q,p.1.client=(cAt x a.c.toNat).id->p.1.num=(cAt x a.c.toNat).next->False:=by
     intro p hp h1 h2
     obtain ⟨c,k1,k2,k3,k4⟩:=hh.mem p hp
     have:c=a.c.toNat:=by omega
     subst this
     omega
    rcases List.mem_cons.1 hq with rfl | hq
    ·rcases List.mem_cons.1 Hm with rfl | Hm
     ·rfl
     exact (key q' Hm hc.symm Hk.symm).elim
    rcases List.mem_cons.1 Hm with rfl | Hm
    ·exact (key q hq hc Hk).elim
    exact hh.uniq q hq q' Hm hc Hk
   late:=fun q hq=>by
    rw [er]
    rcases List.mem_cons.1 hq with rfl | hq
    ·exact ⟨mC _,by rw [List.take_length];exact eno⟩
    exact hh.late q hq
   told:=fun t Hd=>hh.told t Hd }
 rw [he] at Ha ⊢
 have Hb:a.c.toNat < x.clients.length:=by omega
 have Hi:=hh.cid _ Hb
 have Kb:=hh.few
 rcases hh.wait _ Hb with h0 | ⟨⟨m,hm⟩,Hs,Kh,Ht⟩
 ·exact absurd h0 hw
 have Hu:=zOb h hr
 have He:=zGc h Hu
 have Hl:AllOk (comOf (repAt x a.r)):=fun e Hg=>(He e Hg).2
 have Kc:=zKm h Hu
 have Hv:=(zHi Hl).1
 have Hw:InC (cAt x a.c.toNat).wait.client:=by unfold InC;rw [Hs];omega
 have Hn:(cAt x a.c.toNat).id=(cAt x a.c.toNat).wait.client:=by rw [Hi.1,Hs]
 have hq:∀ e ∈ comOf (repAt x a.r),(decode e).1.client=(cAt x a.c.toNat).wait.client->(decode e).1.num<=(cAt x a.c.toNat).wait.num:=by
  intro e Hg Hc
  obtain ⟨q,hq,hd⟩:=zFg (He e Hg).1
  rw [hd] at Hc ⊢
  obtain ⟨c,k1,k2,k3,k4⟩:=hh.mem q hq
  have Kd:q.1.client=(cAt x a.c.toNat).wait.client:=Hc
  have:c=a.c.toNat:=by omega
  subst this
  show q.1.num<=_
  omega
 have Hj:(lastOf (played (comOf (repAt x a.r))) (cAt x a.c.toNat).wait.client).num=(cAt x a.c.toNat).wait.num:=by
  rw [Hv,Hn] at hn;exact hn
 obtain ⟨k,e,k1,k2,k3,k4,k5⟩:=zQr Hw _ Ht _ Hl hq Hj
 have Hr:k < (comOf (repAt x a.r)).length:=by
  rcases Nat.lt_or_ge k (comOf (repAt x a.r)).length with h | h
  ·exact h
  rw [List.getElem?_eq_none h] at k1;cases k1
 have Ho:∀ e ∈ comOf (repAt x a.r),(isReq (cAt x a.c.toNat).wait e=true↔(decode e).1.client=(cAt x a.c.toNat).wait.client/\(decode e).1.num=(cAt x a.c.toNat).wait.num):=by
  intro e Hg
  obtain ⟨q,hq,hd⟩:=zFg (He e Hg).1
  unfold isReq
  rw [decide_eq_true_eq,hd]
  simp only [Prod.mk.injEq,and_true]
  refine ⟨fun e'=>by rw [e'];exact ⟨rfl,rfl⟩,fun ⟨e1,e2⟩=>?_⟩
  have:=hh.uniq q hq _ hm e1 e2
  rw [this]
 have Hf:placeOf (comOf (repAt x a.r)) (cAt x a.c.toNat).wait=k:=by
  unfold placeOf
  rw [List.findIdx_eq Hr]
  have Ke:(comOf (repAt x a.r))[k]=e:=by rw [mH Hr] at k1;exact Option.some.inj k1
  refine ⟨by rw [Ke];exact (Ho e (List.mem_of_getElem? k1)).2 ⟨k2,k3⟩,fun j hj=>?_⟩
  have Hx:j < (comOf (repAt x a.r)).length:=by omega
  have:=k4 j _ hj (mH Hx)
  rw [Bool.eq_false_iff]
  intro hb
  exact this ((Ho _ (List.getElem_mem Hx)).1 hb)
 have Hp:ToldOk (comOf (repAt x a.r)) ⟨(cAt x a.c.toNat).wait,((play (comOf (repAt x a.r))).1.lasts.getD ((cAt x a.c.toNat).id - 1).toNat last0).reply⟩:=by
  refine ⟨by rw [Hf];exact Hr,Hw,Ht,?_⟩
  rw [Hf]
  refine ⟨(zHi fun e Hg=>Hl e (List.mem_of_mem_take Hg)).1,?_⟩
  show lastOf _ (cAt x a.c.toNat).wait.client=_
  rw [k5,Hv,Hn]
  show lastOf _ _=⟨(cAt x a.c.toNat).wait.num,(lastOf _ _).reply⟩
  rw [<- Hj]
 refine ⟨Q,G,fun q hq=>hq,h.besides (x':=tellIt x a) rfl rfl h.fly,?_,Ha,fun h1 _=>by omega⟩
 have ec:∀ c,cAt (tellIt x a) c=if c=a.c.toNat then { cAt x a.c.toNat with wait:=req0 } else cAt x c:=fun c=>zGd Hb rfl rfl
 have el:(tellIt x a).clients.length=x.clients.length:=by simp [tellIt]
 exact {
  few:=by rw [el];exact hh.few
  cid:=fun c Hc=>by
   rw [el] at Hc
   rw [ec]
   split
   ·rename_i e';subst e';exact Hi
   exact hh.cid c Hc
  wait:=fun c Hc=>by
   rw [el] at Hc
   rw [ec]
   split
   ·exact .inl rfl
   exact hh.wait c Hc
  mem:=fun q hq=>by
   obtain ⟨c,h1,h2,h3,h4⟩:=hh.mem q hq
   refine ⟨c,by rw [el];exact h1,h2,h3,?_⟩
   rw [ec]
   split
   ·rename_i e';subst e';exact h4
   exact h4
  uniq:=hh.uniq
  late:=hh.late
  told:=fun t Hd=>by
   rcases List.mem_append.1 Hd with Hd | Hd
   ·exact hh.told t Hd
   simp only [List.mem_singleton] at Hd
   subst Hd
   exact Hp.mono Kc }
end Scu
namespace Scu
theorem zOe (n:Nat) (hn:n<=4):HistOk [] (netNew n):=by
 have hl:(netNew n).clients.length=n:=by simp [netNew]
 have hc:∀ c:Nat,c < n->cAt (netNew n) c=⟨(c:Int)+1,1,req0⟩:=fun c h=>by
  unfold cAt netNew
  simp only
  rw [mI,List.getElem?_map,List.getElem?_range h]
  rfl
 exact { few:=by rw [hl];exact hn
         cid:=fun c h=>by rw [hl] at h;rw [hc c h];exact ⟨rfl,Int.le_refl _⟩
         wait:=fun c h=>by rw [hl] at h;rw [hc c h];exact .inl rfl
         mem:=fun q hq=>by cases hq
         uniq:=fun q hq=>by cases hq
         late:=fun q hq=>by cases hq
         told:=fun t ht=>by cases ht }
def Came (x:Net):Prop:=∃ Q G,NetOk (Asked Q) G x/\HistOk Q x
theorem came_new (n:Nat) (hn:n<=4):Came (netNew n):=⟨[],gh0,zSa _ n,zOe n hn⟩
theorem Came.act {x:Net} (h:Came x) (a:Act):Came (act x a).1/\committed x.replicas <+: committed (act x a).1.replicas:=by
 obtain ⟨Q,G,h1,h2⟩:=h
 obtain ⟨Q',G',_,h3,h4,h5,_⟩:=zSc h1 h2 a
 exact ⟨⟨Q',G',h3,h4⟩,h5⟩
theorem Came.steps:∀ (l:List Act) {x:Net},Came x->Came (steps x l).1/\committed x.replicas <+: committed (steps x l).1.replicas
 | [],_,h=>⟨h,List.prefix_refl _⟩
 | a :: l,x,h=>by
   obtain ⟨h1,h2⟩:=h.act a
   obtain ⟨h3,h4⟩:=Came.steps l h1
   exact ⟨h3,h2.trans h4⟩
theorem steps_codes:∀ (l:List Act) (x:Net),(steps x l).2.length=l.length
 | [],_=>rfl
 | a :: l,x=>by simp [steps,steps_codes l]
theorem zGl:∀ (l m:List Act) (x:Net),steps x (l ++ m)=((steps (steps x l).1 m).1,(steps x l).2 ++ (steps (steps x l).1 m).2)
 | [],m,x=>by simp [steps]
 | a :: l,m,x=>by simp [steps,zGl l m]
def outOf (s:Net × List Int):Outcome:=⟨s.1.replicas,s.1.slots,s.1.flying,s.1.clients,s.1.told,s.2⟩
theorem came_run (l:List Act):Came (steps (netNew 3) l).1:=(Came.steps l (came_new 3 (by omega))).1
section
variable {x:Net}
theorem Came.com (h:Came x) {r:Replica} (hr:r ∈ x.replicas):0<=r.kept.commit/\r.kept.commit<=r.kept.log.length/\comOf r <+: committed x.replicas:=by
 obtain ⟨Q,G,h1,h2⟩:=h
 exact ⟨(zBi h1 hr).2.1,(zBi h1 hr).2.2,zKm h1 hr⟩
theorem Came.agree (h:Came x) {r:Replica} (hr:r ∈ x.replicas):r.kept.commit.toNat<=(committed x.replicas).length/\r.kept.log.take r.kept.commit.toNat=(committed x.replicas).take r.kept.commit.toNat:=by
 obtain ⟨h0,h1,h2⟩:=h.com hr
 have hl:(comOf r).length=r.kept.commit.toNat:=by unfold comOf;rw [List.length_take];omega
 refine ⟨by have:=h2.length_le;omega,?_⟩
 have:=take_len_of_prefix h2
 rw [hl] at this
 exact this.symm
theorem Came.rlen (h:Came x):x.replicas.length=3/\x.slots.length=3:=by
 obtain ⟨Q,G,h1,h2⟩:=h
 exact ⟨h1.rlen,h1.slen⟩
theorem Came.fault (h:Came x) {r:Replica} (hr:r ∈ x.replicas):repFault r=0:=by
 obtain ⟨Q,G,h1,h2⟩:=h
 obtain ⟨i,hi,rfl⟩:=zIy h1 hr
 exact h1.fault i hi
theorem Came.slot (h:Came x) (i:Int) (hi:InR i):∃ g at_,load (slotAt x i)=((repAt x i).kept,g,at_,0):=by
 obtain ⟨Q,G,h1,h2⟩:=h
 exact h1.slot i hi
theorem Came.entries (h:Came x):AllOk (committed x.replicas):=by
 obtain ⟨Q,G,h1,h2⟩:=h
 exact fun e he=>(zEj h1 e he).2
theorem Came.told (h:Came x) {t:Told} (ht:t ∈ x.told):ToldOk (committed x.replicas) t:=by
 obtain ⟨Q,G,h1,h2⟩:=h
 exact h2.told t ht
theorem Came.me (h:Came x) {i:Int} (hi:InR i):(repAt x i).me=i:=by
 obtain ⟨Q,G,h1,h2⟩:=h
 exact (h1.rep i hi).me
theorem Came.lead_one (h:Came x) {i j:Int} (hi:InR i) (hj:InR j) (h1:leads (repAt x i)=true) (h2:leads (repAt x j)=true) (hv:(repAt x i).kept.view=(repAt x j).kept.view):i=j:=by
 have a:=(zDk.1 h1).2
 have b:=(zDk.1 h2).2
 rw [h.me hi] at a
 rw [h.me hj,<- hv] at b
 omega
theorem Came.lead_all (h:Came x) {i:Int} (hi:InR i) (h1:leads (repAt x i)=true) (hn:∀ j,InR j->(repAt x j).kept.normal<=(repAt x i).kept.view):committed x.replicas <+: (repAt x i).kept.log:=by
 have Hg:=h.me hi
 obtain ⟨Q,G,h2,h3⟩:=h
 have hk:=(h2.rep i hi).kept
 obtain ⟨hc,hl⟩:=zDk.1 h1
 have Hc:=hk.calm hc
 have Ha:(repAt x i).kept.log=G.vl (repAt x i).kept.view:=by
  rw [<- Hc]
  exact hk.mine (by rw [Hc,hl,Hg])
 have Hf:G.st (repAt x i).kept.view:=by rw [<- Hc];exact hk.st
 have Hd:∃ n,n<=(repAt x i).kept.view/\Valid G n (committed x.replicas):=by
  obtain ⟨h4,_,_⟩:=zBf x.replicas [] fun r hr=>(zBi h2 hr).2
  rcases h4 with h4 | ⟨r,hr,h4⟩
  ·exact ⟨_,Int.le_refl _,.inl h4⟩
  obtain ⟨j,hj,rfl⟩:=zIy h2 hr
  exact ⟨_,hn j hj,by show Valid G _ (x.replicas.foldl comStep []);rw [h4];exact (zBi h2 hr).1⟩
 obtain ⟨n,Hh,hv⟩:=Hd
 rcases hv with h0 | ⟨w,j,hw,Hi,hj,Hj,He,Hb⟩
 ·rw [h0];exact List.nil_prefix
 by_cases Hk:w=(repAt x i).kept.view
 ·rw [Ha,<- Hk];exact Hb
 have Hl:w < (repAt x i).kept.view:=by omega
 have:=Valid.in_view h2.g (P:=committed x.replicas) (.inr ⟨w,j,Int.le_refl _,Hi,hj,Hj,He,Hb⟩) Hl Hf
 rw [Ha]
 exact this.trans (h2.g.pre _ Hf)
theorem Came.crash (h:Came x) {i:Int} (hi:InR i):(Scu.crash x i.toNat).2=0/\(Scu.crash x i.toNat).1.slots=x.slots /\
 ∀ j,InR j->(repAt (Scu.crash x i.toNat).1 j).kept=(repAt x j).kept:=by
 obtain ⟨Q,G,h1,h2⟩:=h
 obtain ⟨g,at_,hl⟩:=h1.slot i hi
 have Ha:load (x.slots.getD i.toNat [])=((repAt x i).kept,g,at_,0):=hl
 have hk:=(repFault_ok (h1.fault i hi)).2.2.2.2.2.2.2
 have hn:=zFf hi hk (repAt x i)
 have e:Scu.crash x i.toNat=({ x with replicas:=x.replicas.set i.toNat (fresh { repAt x i with me:=i,kept:=(repAt x i).kept }) },0):=by
  unfold Scu.crash
  simp only [Ha]
  rw [if_neg (by decide),zHh hi,hn]
 rw [e]
 refine ⟨rfl,rfl,fun j hj=>?_⟩
 have:=zCj (x:=x) (r:=fresh { repAt x i with me:=i,kept:=(repAt x i).kept }) (sl:=x.slots) (fl:=x.flying) hi hj h1.rlen
 show (repAt { x with replicas:=x.replicas.set i.toNat (fresh { repAt x i with me:=i,kept:=(repAt x i).kept }),slots:=x.slots,flying:=x.flying } j).kept=_
 rw [this]
 split
 ·rename_i e';subst e';rfl
 rfl
theorem zKc {a b:List Replica} (h:a.map Replica.kept=b.map Replica.kept):committed a=committed b:=by
 unfold committed
 generalize ([]:List Str)=o
 induction a generalizing b o with
 | nil=>cases b with
   | nil=>rfl
   | cons=>cases h
 | cons r a ih=>cases b with
   | nil=>cases h
   | cons r' b =>
     simp only [List.map_cons,List.cons.injEq] at h
     simp only [List.foldl_cons]
     have:comStep o r=comStep o r':=by unfold comStep comOf;rw [h.1]
     rw [this]
     exact ih h.2 _
theorem Came.actCrash (_h:Came x) {i:Int} (hi:InR i):Scu.act x ⟨9,0,i,0,0,op0⟩=Scu.crash x i.toNat:=by
 have h0:=hi
 unfold InR at h0
 unfold Scu.act actAt
 simp only
 rw [if_neg (by decide),if_pos (by decide),if_neg (by omega),if_pos trivial]
def falls:List Act:=[⟨9,0,0,0,0,op0⟩,⟨9,0,1,0,0,op0⟩,⟨9,0,2,0,0,op0⟩]
theorem Came.falls (h:Came x):Came (Scu.steps x Scu.falls).1/\(Scu.steps x Scu.falls).1.slots=x.slots/\(∀ j,InR j->(repAt (Scu.steps x Scu.falls).1 j).kept=(repAt x j).kept):=by
 have i0:InR 0:=by unfold InR;omega
 have i1:InR 1:=by unfold InR;omega
 have i2:InR 2:=by unfold InR;omega
 have a0:=h.crash i0
 have e0:=h.actCrash i0
 have c0:Came (Scu.crash x 0).1:=by have:=(h.act ⟨9,0,0,0,0,op0⟩).1;rw [e0] at this;exact this
 have a1:=c0.crash i1
 have e1:=c0.actCrash i1
 have c1:Came (Scu.crash (Scu.crash x 0).1 1).1:=by have:=(c0.act ⟨9,0,1,0,0,op0⟩).1;rw [e1] at this;exact this
 have a2:=c1.crash i2
 have e2:=c1.actCrash i2
 have c2:Came (Scu.crash (Scu.crash (Scu.crash x 0).1 1).1 2).1:=by have:=(c1.act ⟨9,0,2,0,0,op0⟩).1;rw [e2] at this;exact this
 have es:(Scu.steps x Scu.falls).1=(Scu.crash (Scu.crash (Scu.crash x 0).1 1).1 2).1:=by
  show (Scu.act (Scu.act (Scu.act x _).1 _).1 _).1=_
  rw [e0]
  show (Scu.act (Scu.act (Scu.crash x 0).1 _).1 _).1=_
  rw [e1]
  show (Scu.act (Scu.crash (Scu.crash x 0).1 1).1 _).1=_
  rw [e2]
  rfl
 rw [es]
 refine ⟨c2,?_,fun j hj=>?_⟩
 ·exact a2.2.1.trans (a1.2.1.trans a0.2.1)
 exact (a2.2.2 j hj).trans ((a1.2.2 j hj).trans (a0.2.2 j hj))
theorem reps3 (h:x.replicas.length=3):x.replicas=[repAt x 0,repAt x 1,repAt x 2]:=by
 obtain ⟨a,b,c,e⟩:=len3 h
 unfold repAt
 rw [e]
 rfl
theorem Came.falls_com (h:Came x):committed (Scu.steps x Scu.falls).1.replicas=committed x.replicas:=by
 obtain ⟨h1,h2,h3⟩:=h.falls
 refine zKc ?_
 rw [reps3 h1.rlen.1,reps3 h.rlen.1]
 simp only [List.map_cons,List.map_nil]
 rw [h3 0 (by unfold InR;omega),h3 1 (by unfold InR;omega),h3 2 (by unfold InR;omega)]
end
structure Sp where
 t:Told
 frm:Int
 tq : Int
structure OrdOk (i:Int) (x:Net) (S:List Sp) (began:List Int):Prop where
 tl:S.map (·.t)=x.told
 bl:began.length=x.clients.length
 pos:0<=i
 came:∃ Q G,NetOk (Asked Q) G x/\HistOk Q x /\
  (∀ c:Nat,c < x.clients.length->(cAt x c).wait.num≠0->began.getD c 0 < i/\∃ m,((cAt x c).wait,m) ∈ Q/\∀ s ∈ S,s.tq < began.getD c 0->placeOf (committed x.replicas) s.t.request < m) /\
  (∀ s ∈ S,s.frm < i/\s.tq < i/\∃ m,(s.t.request,m) ∈ Q/\∀ s' ∈ S,s'.tq < s.frm->placeOf (committed x.replicas) s'.t.request < m)
def ordStep (i:Int) (x:Net) (a:Act) (S:List Sp) (began:List Int):List Sp × List Int :=
 if (act x a).2≠0 then (S,began)
 else if a.kind=1 then (S,began.set a.c.toNat i)
 else if a.kind=3 then (S ++ [⟨(act x a).1.told.getD S.length ⟨req0,reply0⟩,began.getD a.c.toNat 0,i⟩],began)
 else (S,began)
theorem OrdOk.step {i:Int} {x:Net} {S:List Sp} {began:List Int} (h:OrdOk i x S began) (a:Act):OrdOk (i+1) (act x a).1 (ordStep i x a S began).1 (ordStep i x a S began).2:=by
 obtain ⟨Hj,Hk,Ht,Q,G,h1,h2,h3,h4⟩:=h
 obtain ⟨Q',G',Hd,Hl,Hm,Hn,Ho⟩:=zSc h1 h2 a
 have Ha:∀ s ∈ S,placeOf (committed (act x a).1.replicas) s.t.request=placeOf (committed x.replicas) s.t.request/\placeOf (committed x.replicas) s.t.request < (committed x.replicas).length:=by
  intro s hs
  have hm:s.t ∈ x.told:=by rw [<- Hj];exact List.mem_map_of_mem hs
  have:=(h2.told _ hm).place
  exact ⟨zFw Hn this,this⟩
 have He:∀ s ∈ S,s.frm < i+1/\s.tq < i+1/\∃ m,(s.t.request,m) ∈ Q'/\∀ s' ∈ S,s'.tq < s.frm->placeOf (committed (act x a).1.replicas) s'.t.request < m:=by
  intro s hs
  obtain ⟨k1,k2,m,k3,k4⟩:=h4 s hs
  exact ⟨by omega,by omega,m,Hd _ k3,fun s' Hc Hg=>by rw [(Ha s' Hc).1];exact k4 s' Hc Hg⟩
 rcases zJa x a with ⟨hc,ht,Hr⟩ | ⟨hk,Hu,Hv,hw,ho,he⟩ | ⟨hk,Hu,Hv,hw,hr,hl,hp,hn,he⟩
 ·have e:ordStep i x a S began=(S,began):=by
   unfold ordStep
   split
   ·rfl
   rename_i h0
   have Hs:(act x a).2=0:=Decidable.not_not.1 h0
   rw [if_neg (fun hk=>Hr ⟨Hs,.inl hk⟩),if_neg (fun hk=>Hr ⟨Hs,.inr hk⟩)]
  rw [e]
  refine ⟨by rw [ht];exact Hj,by rw [hc];exact Hk,by omega,Q',G',Hl,Hm,?_,He⟩
  intro c Hh Hf
  have ec:cAt (act x a).1 c=cAt x c:=by unfold cAt;rw [hc]
  rw [ec] at Hf ⊢
  rw [hc] at Hh
  obtain ⟨k1,m,k2,k3⟩:=h3 c Hh Hf
  exact ⟨by show began.getD c 0 < i+1;omega,m,Hd _ k2,fun s hs Hg=>by rw [(Ha s hs).1];exact k3 s hs Hg⟩
 ·have h0:(act x a).2=0:=by rw [he]
  have e:ordStep i x a S began=(S,began.set a.c.toNat i):=by
   unfold ordStep
   rw [if_neg (fun hh=>hh h0),if_pos hk]
  have Hp:=Ho hk h0
  have Hg:a.c.toNat < x.clients.length:=by omega
  have ex:(act x a).1=askIt x a:=by rw [he]
  have ecl:(act x a).1.clients.length=x.clients.length:=by rw [ex];simp [askIt]
  have er:(act x a).1.replicas=x.replicas:=by rw [ex];rfl
  rw [e]
  refine ⟨by rw [ex];exact Hj,by rw [ecl];simpa using Hk,by omega,Q',G',Hl,Hm,?_,He⟩
  intro c Hh Hf
  rw [ecl] at Hh
  by_cases Hi:c=a.c.toNat
  ·subst Hi
   have eb:(began.set a.c.toNat i).getD a.c.toNat 0=i:=by
    rw [mI,List.getElem?_set_self (by rw [Hk];exact Hg)]
    rfl
   show (began.set a.c.toNat i).getD a.c.toNat 0 < _/\_
   rw [eb]
   refine ⟨by omega,_,Hp,fun s hs Hb=>?_⟩
   rw [(Ha s hs).1]
   exact (Ha s hs).2
  have eb:(began.set a.c.toNat i).getD c 0=began.getD c 0:=by
   rw [mI,List.getElem?_set_ne (fun h=>Hi h.symm),<- mI]
  have ec:cAt (act x a).1 c=cAt x c:=by
   rw [ex,zGd (cl:=(askIt x a).clients) Hg rfl rfl,if_neg Hi]
  show (began.set a.c.toNat i).getD c 0 < _/\_
  rw [eb]
  rw [ec] at Hf ⊢
  obtain ⟨k1,m,k2,k3⟩:=h3 c Hh Hf
  exact ⟨by omega,m,Hd _ k2,fun s hs Hb=>by rw [(Ha s hs).1];exact k3 s hs Hb⟩
 have h0:(act x a).2=0:=by rw [he]
 have Hg:a.c.toNat < x.clients.length:=by omega
 have ex:(act x a).1=tellIt x a:=by rw [he]
 have ecl:(act x a).1.clients.length=x.clients.length:=by rw [ex];simp [tellIt]
 have Hw:S.length=x.told.length:=by rw [<- Hj,List.length_map]
 have etold:(act x a).1.told=x.told ++ [⟨(cAt x a.c.toNat).wait,((play (comOf (repAt x a.r))).1.lasts.getD ((cAt x a.c.toNat).id - 1).toNat last0).reply⟩]:=by rw [ex];rfl
 have Hq:(act x a).1.told.getD S.length ⟨req0,reply0⟩=⟨(cAt x a.c.toNat).wait,((play (comOf (repAt x a.r))).1.lasts.getD ((cAt x a.c.toNat).id - 1).toNat last0).reply⟩:=by
  rw [etold,Hw,mI,List.getElem?_append_right (mC _),Nat.sub_self]
  rfl
 have e:ordStep i x a S began=(S ++ [⟨⟨(cAt x a.c.toNat).wait,((play (comOf (repAt x a.r))).1.lasts.getD ((cAt x a.c.toNat).id - 1).toNat last0).reply⟩,began.getD a.c.toNat 0,i⟩],began):=by
  unfold ordStep
  rw [if_neg (fun hh=>hh h0),if_neg (by omega),if_pos hk,Hq]
 rw [e]
 obtain ⟨q1,m,q2,q3⟩:=h3 _ Hg hw
 refine ⟨by rw [etold];simp [Hj],by rw [ecl];exact Hk,by omega,Q',G',Hl,Hm,?_,?_⟩
 ·intro c Hh Hf
  rw [ecl] at Hh
  have ec:cAt (act x a).1 c=if c=a.c.toNat then { cAt x a.c.toNat with wait:=req0 } else cAt x c:=by rw [ex];exact zGd (cl:=(tellIt x a).clients) Hg rfl rfl
  by_cases Hi:c=a.c.toNat
  ·rw [ec,if_pos Hi] at Hf
   exact (Hf rfl).elim
  rw [ec,if_neg Hi] at Hf ⊢
  obtain ⟨k1,m',k2,k3⟩:=h3 c Hh Hf
  refine ⟨by show began.getD c 0 < i+1;omega,m',Hd _ k2,fun s hs Hb=>?_⟩
  rcases List.mem_append.1 hs with hs | hs
  ·rw [(Ha s hs).1];exact k3 s hs Hb
  rw [List.mem_singleton] at hs
  subst hs
  have Hx:i < began.getD c 0:=Hb
  omega
 intro s hs
 rcases List.mem_append.1 hs with hs | hs
 ·obtain ⟨k1,k2,m',k3,k4⟩:=He s hs
  refine ⟨k1,k2,m',k3,fun s' Hc Hb=>?_⟩
  rcases List.mem_append.1 Hc with Hc | Hc
  ·exact k4 s' Hc Hb
  rw [List.mem_singleton] at Hc
  subst Hc
  have:=(h4 s hs).1
  simp only at Hb
  omega
 rw [List.mem_singleton] at hs
 subst hs
 refine ⟨by simp only;omega,by simp only;omega,m,Hd _ q2,fun s' Hc Hb=>?_⟩
 rcases List.mem_append.1 Hc with Hc | Hc
 ·rw [(Ha s' Hc).1];exact q3 s' Hc Hb
 rw [List.mem_singleton] at Hc
 subst Hc
 simp only at Hb
 omega
end Scu
namespace Scu
structure Bnd (n:Nat) (x:Net):Prop where
 fly:x.flying.length<=80
 told:x.told.length<=n
 next:∀ c:Nat,c < x.clients.length->(cAt x c).next<=n+1
theorem zGe:∀ (l f:List Message),f.length<=80->(sendAll f l).length<=80
 | [],f,h=>h
 | m :: l,f,h=>by
   show (sendAll (if f.length < 80 then f ++ [m] else f) l).length<=80
   refine zGe l _ ?_
   split
   ·simp;omega
   ·exact h
theorem zMl (x:Net) (r:Nat):(crash x r).1.flying=x.flying:=by
 unfold crash
 simp only []
 split <;> rfl
theorem zHj {x:Net} (h:x.flying.length<=80) (r:Nat) (next:Replica) (out:List Message) (upto:Int):(settle x r next out upto).1.flying.length<=80:=by
 unfold settle
 split
 ·exact zGe _ _ h
 simp only []
 split
 ·exact h
 split
 ·rw [zMl];exact h
 exact zGe _ _ h
theorem zYc {x:Net} (h:x.flying.length<=80) (a:Act):(act x a).1.flying.length<=80:=by
 unfold act
 split
 ·unfold actBy
  split
  ·exact h
  simp only []
  split
  ·split
   ·exact h
   split
   ·exact h
   exact h
  split
  ·exact h
  split
  ·exact h
  split
  ·unfold answer
   simp only []
   split
   ·exact h
   split
   ·exact h
   split
   ·exact h
   exact h
  split
  ·exact h
  split
  ·exact h
  exact zHj h _ _ _ _
 split
 ·unfold actAt
  simp only []
  split
  ·exact h
  split
  ·rw [zMl];exact h
  generalize (if a.kind=5 then alarm (x.replicas.getD a.r.toNat replica0) else tick (x.replicas.getD a.r.toNat replica0))=q
  split
  ·exact h
  exact zHj h _ _ _ _
 split
 ·unfold actMessage
  simp only []
  have he:(x.flying.eraseIdx a.k.toNat).length<=80:=mD (List.length_eraseIdx_le _ _) h
  split
  ·exact h
  split
  ·split
   ·exact h
   simp only [List.length_append,List.length_cons,List.length_nil]
   omega
  split
  ·exact h
  split
  ·exact he
  split
  ·exact he
  exact zHj (x:={ x with flying:=x.flying.eraseIdx a.k.toNat }) he _ _ _ _
 exact h
theorem Bnd.act {n:Nat} {x:Net} (h:Bnd n x) (a:Act):Bnd (n+1) (act x a).1:=by
 have hf:=zYc h.fly a
 have Hf:=h.told
 rcases zJa x a with ⟨hc,ht,Hg⟩ | ⟨hk,Hd,He,hw,ho,he⟩ | ⟨hk,Hd,He,hw,hr,hl,hp,hn,he⟩
 ·refine ⟨hf,by rw [ht];omega,fun c Ha=>?_⟩
  have ec:cAt (Scu.act x a).1 c=cAt x c:=by unfold cAt;rw [hc]
  rw [hc] at Ha
  rw [ec]
  have:=h.next c Ha
  omega
 ·have ex:(Scu.act x a).1=askIt x a:=by rw [he]
  have Hc:a.c.toNat < x.clients.length:=by omega
  refine ⟨hf,by rw [ex];show x.told.length<=n+1;omega,fun c Ha=>?_⟩
  rw [ex] at Ha ⊢
  have Hb:c < x.clients.length:=by simpa [askIt] using Ha
  rw [zGd (cl:=(askIt x a).clients) Hc rfl rfl]
  split
  ·have:=h.next _ Hc
   show (cAt x a.c.toNat).next+1<=_
   omega
  have:=h.next c Hb
  omega
 have ex:(Scu.act x a).1=tellIt x a:=by rw [he]
 have Hc:a.c.toNat < x.clients.length:=by omega
 refine ⟨hf,by rw [ex];simp only [tellIt,List.length_append,List.length_cons,List.length_nil];omega,fun c Ha=>?_⟩
 rw [ex] at Ha ⊢
 have Hb:c < x.clients.length:=by simpa [tellIt] using Ha
 rw [zGd (cl:=(tellIt x a).clients) Hc rfl rfl]
 split
 ·have:=h.next _ Hc
  show (cAt x a.c.toNat).next<=_
  omega
 have:=h.next c Hb
 omega
theorem bnd_new (n:Nat):Bnd 0 (netNew n):=by
 refine ⟨mE _,mC _,fun c hc=>?_⟩
 have hl:(netNew n).clients.length=n:=by simp [netNew]
 rw [hl] at hc
 unfold cAt netNew
 simp only
 rw [mI,List.getElem?_map,List.getElem?_range hc]
 show (1:Int)<=((0:Nat):Int)+1
 decide
theorem Came.ids {x:Net} (h:Came x):x.clients.length<=4/\∀ c:Nat,c < x.clients.length->(cAt x c).id=c+1/\1<=(cAt x c).next:=by
 obtain ⟨Q,G,h1,h2⟩:=h
 exact ⟨h2.few,h2.cid⟩
theorem Came.flyTo {x:Net} (h:Came x) {m:Message} (hm:m ∈ x.flying):InR m.tq:=by
 obtain ⟨Q,G,h1,h2⟩:=h
 exact (h1.fly m hm).2
theorem Came.played {x:Net} (h:Came x) {r:Replica} (hr:r ∈ x.replicas):play (comOf r)=(Scu.played (comOf r),0)/\stateFault (Scu.played (comOf r))=0:=by
 obtain ⟨Q,G,h1,h2⟩:=h
 exact zHi fun e he=>(zGc h1 hr e he).2
end Scu
