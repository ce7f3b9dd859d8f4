import Derived.Test.YtgmaamnofhmecaaGreatDoorY31
import Derived.Test.YtgmaamnofhmecaaGreatDoorY18
import Derived.Test.YtgmaamnofhmecaaGreatDoorY27
import Derived.Test.YtgmaamnofhmecaaGreatDoorY17
set_option linter.unusedSimpArgs false
set_option maxHeartbeats 4000000
open Go.Lib renaming hid → zh
namespace Go.Proofs.YtgmaamnofhmecaaGreatDoor
open Go.RowKit
set_option linter.unusedVariables false
section
variable {w w':World} {base:Nat} {v u:Value} {fs gs:List EvD}
theorem EvsO.drawn {p K K':Nat} (h:EvsO w base v fs) (hs:SrcR w p K) (hd:Drawn p K' w w'):EvsO w' base v fs:=by
 obtain⟨vs,h⟩:=h;exact⟨vs,OwnL.drawn h hs hd (by decide)⟩
theorem EvsO.setBlk {g tp i:Nat} {cs:Array Value} (h:EvsO w base v fs) (hB:Blk w g tp cs) (h1:55≠tp) (h2:9≠tp):EvsO (w.setCell ⟨g,i,none⟩ u) base v fs:=by
 obtain⟨vs,h⟩:=h;exact⟨vs,h.grownOther hB h1 h2 (Own.grown_set _ _ _ _)⟩
theorem EvsO.other {base' e' size' n':Nat} {xs':List Value} (h:EvsO w base v fs) (hr:w.ownsRow base' e' size' u n' xs') (hg:w.grownBy w' u.ownBlock) (h1:55≠e') (h2:9≠e'):EvsO w' base v fs:=by
 obtain⟨vs,h⟩:=h;exact⟨vs,h.len,h.row.kept hg (Own.apart_types h.row hr h1),fun j hj=>World.ownsRow.kept (h.subs j hj) hg (Own.apart_types (h.subs j hj) hr h2),h.aprt⟩
theorem EvsO.apart_ {base':Nat} (h:EvsO w base v fs) (hr:EvsO w base' u gs) (hg:w.grownBy w' u.ownBlock) (ha:Own.apart v u):EvsO w' base v fs:=by
 obtain⟨vs,h⟩:=h;obtain⟨us,hr⟩:=hr;exact⟨vs,h.len,h.row.kept hg ha,fun j hj=>World.ownsRow.kept (h.subs j hj) hg (Own.apart_types (h.subs j hj) hr.row (by decide)),h.aprt⟩
theorem EvsO.chg {P:Nat→Prop} (h:EvsO w base v fs) (k:Own.Chg P w w') (hP:∀g,P g→w.heap.size≤g∨g<base):EvsO w' base v fs:=by
 obtain⟨vs,h⟩:=h;have hn:∀g,base≤g→g<w.heap.size→¬P g:=fun g h1 h2 hp=>by rcases hP g hp with h3 | h3 <;> omega
 obtain⟨a,b⟩:=h.inP (P:=fun g=>¬P g) hn;exact⟨vs,h.chg k a b⟩
end
def batK:Own.Kind BatD:=⟨2,fun d v=>[.int .i64 d.job,v],fun _=>[],fun _ _=>rfl,by decide⟩
structure BatsL (w:World) (base:Nat) (v:Value) (l:List BatD) (vs:List Value):Prop where
 len:vs.length=l.length
 row:w.ownsRow base 53 2 v l.length (Own.flat batK l vs)
 evs:∀j,j<l.length→EvsO w base (vs.getD j (.slice none 0 0)) (l.getD j default).evs
 aprt:vs.Pairwise Own.apart
def zEW (w:World) (base:Nat) (v:Value) (l:List BatD):Prop:=∃vs,BatsL w base v l vs
theorem zDx:(Tryz.prog.info? 53).map (fun i=>(i.zero,i.size,i.bytes))=some (some (.agg #[.int .i64 0,.slice none 0 0]),2,32):=by kernel_rfl
theorem zJa (w:World) (base:Nat) (h:base≤w.heap.size):zEW (w.alloc (.cells #[] 53)) base (.slice (some ⟨w.heap.size,0,none⟩) 0 0) [] :=
 ⟨[],rfl,World.ownsRow_lit (e:=53) (size:=2) w #[] 0 h (by omega) rfl,fun j hj=>by simp at hj,List.Pairwise.nil⟩
section
variable {w w':World} {base:Nat} {v:Value} {l:List BatD} {vs:List Value}
theorem BatsL.later (h:BatsL w base v l vs) (hb:Below w.heap.size w w'):BatsL w' base v l vs:=⟨h.len,Own.own_later h.row hb,fun j hj=>(h.evs j hj).later hb,h.aprt⟩
theorem BatsL.base_ {base':Nat} (h:BatsL w base' v l vs) (hb:base≤base'):BatsL w base v l vs:=⟨h.len,Own.own_base h.row hb,fun j hj=>(h.evs j hj).base hb,h.aprt⟩
theorem BatsL.drawn {p K K':Nat} (h:BatsL w base v l vs) (hs:SrcR w p K) (hd:Drawn p K' w w'):BatsL w' base v l vs :=
 ⟨h.len,Own.own_chg h.row hd.chg (hs.not_own h.row (by decide)),fun j hj=>(h.evs j hj).drawn hs hd,h.aprt⟩
theorem BatsL.setBlk {g tp i:Nat} {u:Value} {cs:Array Value} (h:BatsL w base v l vs) (hB:Blk w g tp cs) (h0:53≠tp) (h1:55≠tp) (h2:9≠tp):BatsL (w.setCell ⟨g,i,none⟩ u) base v l vs :=
 ⟨h.len,h.row.kept (row:=some g) (Own.grown_set _ _ _ _) (.inr (Own.own_blk_ne h.row hB h0)),fun j hj=>(h.evs j hj).setBlk hB h1 h2,h.aprt⟩
theorem BatsL.fresh {base':Nat} {v':Value} {es:List EvD} (h:BatsL w base v l vs) (hs:EvsO w' base' v' es) (hb:w.heap.size≤base'):∀u∈vs,Own.apart u v':=by
 intro u hu;obtain⟨j,hj,rfl⟩:=Own.mem_getD hu;obtain⟨a,h1⟩:=h.evs j (by rw[←h.len];exact hj);obtain⟨b,h2⟩:=hs;exact Own.apart_new h1.row h2.row hb
theorem BatsL.snoc {v1 v':Value} {d:BatD} (h:BatsL w base v l vs) (hsub:EvsO w base v' d.evs) (hap:∀u∈vs,Own.apart u v')
 (hrow:w'.ownsRow base 53 2 v1 (l.length+1) (Own.flat batK l vs++[.int .i64 d.job,v'])) (hg:w.grownBy w' v.ownBlock):BatsL w' base v1 (l++[d]) (vs++[v']):=by
 have hvl:=h.len;refine⟨by simp[hvl],?_,fun j hj=>?_,?_⟩
 · rw[List.length_append,Own.flat_append batK _ _ _ _ hvl];simpa [Own.flat,batK] using hrow
 · rw[List.length_append,List.length_singleton]at hj;by_cases e:j<l.length
   · rw[List.getD_eq_getElem?_getD,List.getElem?_append_left (by omega),←List.getD_eq_getElem?_getD,List.getD_eq_getElem?_getD (l:=l++[d]),List.getElem?_append_left e,←List.getD_eq_getElem?_getD];exact(h.evs j e).other h.row hg (by decide) (by decide)
   · obtain rfl:j=l.length:=by omega
     rw[List.getD_eq_getElem?_getD,List.getElem?_append_right (by omega),List.getD_eq_getElem?_getD,List.getElem?_append_right (Nat.le_refl _),hvl,Nat.sub_self];exact hsub.other h.row hg (by decide) (by decide)
 · rw[List.pairwise_append];refine⟨h.aprt,List.pairwise_singleton _ _,fun a ha b hb=>?_⟩;rw[List.mem_singleton.1 hb];exact hap a ha
theorem BatsL.cellAt {g n cap:Nat} (h:BatsL w base (.slice (some ⟨g,0,none⟩) n cap) l vs) (hn:l.length=n) (j i:Nat) (hj:j<n) (hi:i<2):w.cell? ⟨g,j*2+i,none⟩=(batK.cells (l.getD j default) (vs.getD j (.slice none 0 0)))[i]?:=by
 subst hn;rw[←Own.flat_at batK l vs j i h.len hj hi];exact h.row.cellAt _ (by omega)
theorem BatsL.reads (h:BatsL w base v l vs):∃A cap,v=.slice A l.length cap∧l.length≤cap∧Bats w w.heap.size A l.length l:=by
 obtain⟨A,cap,rfl,hc,_,hA⟩:=Own.own_slice h.row;refine⟨A,cap,rfl,hc,rfl,fun hn=>?_⟩;obtain⟨g,rfl,hg,_⟩:=hA hn;refine⟨g,0,rfl,hg,fun j hj=>?_⟩;have h0:=h.cellAt rfl j 0 hj (by decide);have h1:=h.cellAt rfl j 1 hj (by decide);obtain⟨A1,cap1,e1,hc1,hs1⟩:=(h.evs j hj).reads;refine⟨_,_,by rw[Nat.zero_add];exact h0,by rw[Nat.zero_add];exact h1,rfl,A1,_,cap1,e1,hs1,hc1⟩
theorem BatsL.some_ (h:BatsL w base v l vs) (hnn:v≠.slice none 0 0):∃g cap,v=.slice (some ⟨g,0,none⟩) l.length cap∧l.length≤cap∧Bats w w.heap.size (some ⟨g,0,none⟩) l.length l:=by
 obtain⟨A,cap,e,hc,hB⟩:=h.reads;rcases h.row.2 with ⟨hv,_⟩ | ⟨g,cap',cur,hv,_⟩
 · exact absurd hv hnn
 · have e2:=e.symm.trans hv;injection e2 with e3 _ _;subst e3;exact⟨g,cap,e,hc,hB⟩
theorem BatsL.job {g n cap k q:Nat} {z:Int} (h:BatsL w base (.slice (some ⟨g,0,none⟩) n cap) l vs) (hn:l.length=n) (hk:k<n) (hq:q=k*2):BatsL (w.setCell ⟨g,q,none⟩ (.int .i64 z)) base (.slice (some ⟨g,0,none⟩) n cap) (l.set k ⟨z,(l.getD k default).evs⟩) vs:=by
 subst hn hq;obtain⟨h1,h2⟩:=h.row.stored (k*2) (.int .i64 z);refine⟨by simpa using h.len,?_,fun j hj=>?_,h.aprt⟩
 · rw[show k*2=k*batK.size+0 from rfl,Own.flat_set batK l vs k 0 (.int .i64 z) ⟨z,(l.getD k default).evs⟩ h.len hk (by decide) (fun v=>rfl)]at h1;rw[List.length_set];exact h1
 · rw[List.length_set]at hj
   have he:((l.set k ⟨z,(l.getD k default).evs⟩).getD j default).evs=(l.getD j default).evs:=by
    rw[Own.getD_set_ _ _ _ _ _ hk];by_cases e:k=j
    · subst e;rw[if_pos rfl]
    · rw[if_neg e]
   rw[he];exact(h.evs j hj).other h.row h2 (by decide) (by decide)
theorem BatsL.val {k gk m c:Nat} {t:ByteArray} (h:BatsL w base v l vs) (hk:k<l.length) (hv:vs.getD k (.slice none 0 0)=.slice (some ⟨gk,0,none⟩) m c) (hm:0<(l.getD k default).evs.length) :
 BatsL (w.setCell ⟨gk,3,none⟩ (.string t)) base v (l.set k ⟨(l.getD k default).job,(l.getD k default).evs.set 0 { (l.getD k default).evs.getD 0 default with val:=t }⟩) vs:=by
 have hg:w.grownBy (w.setCell ⟨gk,3,none⟩ (.string t)) (Value.slice (some ⟨gk,0,none⟩) m c).ownBlock:=Own.grown_set _ _ _ _;have hk0:=h.evs k hk;rw[hv]at hk0;obtain⟨us,ho⟩:=hk0;obtain⟨A,cap,e1,_⟩:=Own.own_slice ho.row;injection e1 with _ e2 _;refine⟨by simpa using h.len,?_,fun j hj=>?_,h.aprt⟩
 · have e:=Own.flat_same batK l vs k ⟨(l.getD k default).job,(l.getD k default).evs.set 0 { (l.getD k default).evs.getD 0 default with val:=t }⟩ (fun v=>rfl);rw[e,List.length_set];exact h.row.kept hg (Own.apart_types h.row ho.row (by decide))
 · rw[List.length_set]at hj;rw[Own.getD_set_ _ _ _ _ _ hk];by_cases e:k=j
   · subst e;rw[if_pos rfl,hv];exact⟨us,ho.put e2.symm (i:=0) (c:=3) (by omega) (by decide) rfl rfl (fun v=>rfl) rfl (by decide)⟩
   · rw[if_neg e];refine(h.evs j hj).apart_ (u:=.slice (some ⟨gk,0,none⟩) m c) ⟨us,ho⟩ hg ?_;rw[←hv];exact Own.pw_apart h.aprt (by rw[h.len];exact hk) (by rw[h.len];exact hj) (fun e'=>e e'.symm) _
theorem zGy {k:Nat} (h:vs.length=l.length) (hk:k≤l.length):Own.flat batK (l.take k) (vs.take k)=(Own.flat batK l vs).take (k*2)∧Own.flat batK (l.drop k) (vs.drop k)=(Own.flat batK l vs).drop (k*2):=by
 have h1:=Own.flat_append batK (l.take k) (l.drop k) (vs.take k) (vs.drop k) (by simp[h]);rw[List.take_append_drop,List.take_append_drop]at h1;have h2:(Own.flat batK (l.take k) (vs.take k)).length=k*2:=by rw[Own.flat_len batK _ _ (by simp[h]),List.length_take,Nat.min_eq_left hk];rfl
 rw[h1];exact⟨(List.take_left' h2).symm,(List.drop_left' h2).symm⟩
theorem BatsL.prefix_ {g n cap k:Nat} (h:BatsL w base (.slice (some ⟨g,0,none⟩) n cap) l vs) (hn:l.length=n) (hk:k≤n):w.ownsRow base 53 2 (.slice (some ⟨g,0,none⟩) k cap) k ((Own.flat batK l vs).take (k*2)):=by
 subst hn;have hr:=h.row;have hl:=hr.1;refine⟨by rw[List.length_take,hl];omega,?_⟩;rcases hr.2 with ⟨h',_⟩ | ⟨g',cap',cur,h',hb,hgg,hc,hm,hs,ht⟩
 · simp at h'
 · simp only[Value.slice.injEq,Option.some.injEq,Addr.mk.injEq,and_true,true_and]at h';obtain⟨rfl,rfl⟩:=h';refine .inr ⟨g,cap,cur,rfl,hb,hgg,by omega,hm,hs,?_⟩;rw[←ht,List.take_take,Nat.min_eq_left (by omega)]
theorem BatsL.news {g n cap:Nat} (h:BatsL w base (.slice (some ⟨g,0,none⟩) n cap) l vs) (hn:l.length=n) (k:Nat):∀j u,((Own.flat batK l vs).drop (k*2))[j]?=some u→w.cell? ((⟨g,k*2,none⟩:Addr).add j)=some u:=by
 subst hn;intro j u hu;rw[List.getElem?_drop]at hu;have hlt:k*2+j<(Own.flat batK l vs).length:=(List.getElem?_eq_some_iff.1 hu).1;have h1:=h.row.cellAt (k*2+j) (by rw[←h.row.1];exact hlt);rw[hu]at h1;have hadd:(⟨g,k*2,none⟩:Addr).add j=⟨g,k*2+j,none⟩:=by unfold Addr.add;split <;> simp_all
 rw[hadd];exact h1
theorem BatsL.one {u:Value} (h:BatsL w base v l vs) (hu:u∈Own.flat batK l vs):u.oneCell'=true:=by
 obtain⟨i,hi,rfl⟩:=List.getElem_of_mem hu;have hlen:=Own.flat_len batK l vs h.len;have hi':i<l.length*2:=by rw[hlen]at hi;exact hi
 have h1:=Own.flat_at batK l vs (i / 2) (i % 2) h.len (by omega) (Nat.mod_lt _ (by decide));rw[show i / 2*batK.size+i % 2=i from by have:batK.size=2:=rfl;rw[this];omega,List.getElem?_eq_getElem hi]at h1;obtain⟨A1,cap1,e1,_⟩:=(h.evs (i / 2) (by omega)).reads;rw[e1]at h1;have h2:i % 2=0∨i % 2=1:=by omega
 generalize (Own.flat batK l vs)[i]=u at *;rcases h2 with h2 | h2
 · rw[h2]at h1;have h3:u=.int .i64 _:=Option.some.inj h1;rw[h3];rfl
 · rw[h2]at h1;have h3:u=.slice _ _ _:=Option.some.inj h1;rw[h3];rfl
theorem BatsL.del {g n cap k:Nat} {v1:Value} (h:BatsL w base (.slice (some ⟨g,0,none⟩) n cap) l vs) (hn:l.length=n) (hk:k<n) (hg:w.grownBy w' (some g))
 (hrow:w'.ownsRow base 53 2 v1 (k+(n-(k+1))) ((Own.flat batK l vs).take (k*2)++(Own.flat batK l vs).drop ((k+1)*2))) :
 BatsL w' base v1 (l.take k++l.drop (k+1)) (vs.take k++vs.drop (k+1)):=by
 subst hn;have hl:=h.len;have hlen:(l.take k++l.drop (k+1)).length=k+(l.length-(k+1)):=by simp;omega
 refine⟨by simp[hl],?_,fun j hj=>?_,?_⟩
 · rw[Own.flat_append batK _ _ _ _ (by simp[hl]),(zGy hl (Nat.le_of_lt hk)).1,(zGy hl hk).2,hlen];exact hrow
 · rw[hlen]at hj;by_cases e:j<k
   · have e1:(vs.take k++vs.drop (k+1)).getD j (.slice none 0 0)=vs.getD j (.slice none 0 0):=by rw[List.getD_eq_getElem?_getD,List.getElem?_append_left (by rw[List.length_take];omega),List.getElem?_take,if_pos e,←List.getD_eq_getElem?_getD]
     have e2:(l.take k++l.drop (k+1)).getD j default=l.getD j default:=by rw[List.getD_eq_getElem?_getD,List.getElem?_append_left (by rw[List.length_take];omega),List.getElem?_take,if_pos e,←List.getD_eq_getElem?_getD]
     rw[e1,e2];exact(h.evs j (by omega)).other h.row hg (by decide) (by decide)
   · have e1:(vs.take k++vs.drop (k+1)).getD j (.slice none 0 0)=vs.getD (j+1) (.slice none 0 0):=by
      rw[List.getD_eq_getElem?_getD,List.getElem?_append_right (by rw[List.length_take];omega),List.getElem?_drop,List.length_take,List.getD_eq_getElem?_getD]
      congr 2
      omega
     have e2:(l.take k++l.drop (k+1)).getD j default=l.getD (j+1) default:=by
      rw[List.getD_eq_getElem?_getD,List.getElem?_append_right (by rw[List.length_take];omega),List.getElem?_drop,List.length_take,List.getD_eq_getElem?_getD]
      congr 2
      omega
     rw[e1,e2];exact(h.evs (j+1) (by omega)).other h.row hg (by decide) (by decide)
 · have:(vs.take k++vs.drop (k+1)).Sublist vs:=by rw[←List.eraseIdx_eq_take_drop_succ];exact List.eraseIdx_sublist _ _
   exact h.aprt.sublist this
end
def xH (l:List BatD):Prop:=l.length≤8∧∀b∈l,b.evs.length≤8∧∀e∈b.evs,yY e
theorem zFr {l:List BatD} (h:xH l):zID l∧∀b∈l,zAY b.evs :=
 ⟨⟨by have:=h.1;omega,fun b hb=>⟨by have:=(h.2 b hb).1;omega,fun e he=>((h.2 b hb).2 e he).1⟩⟩,fun b hb e he=>((h.2 b hb).2 e he).2⟩
theorem zJF:xH []:=⟨by simp,fun b hb=>by cases hb⟩
theorem zIN {l:List BatD} {b:BatD} (h:xH l) (hl:l.length<8) (hb:b.evs.length≤8∧∀e∈b.evs,yY e):xH (l++[b]):=⟨by simp;omega,fun x hx=>by
 rcases List.mem_append.1 hx with h1 | h1
 · exact h.2 x h1
 · rw[List.mem_singleton]at h1;subst h1;exact hb⟩
theorem zDD {l:List BatD} {b:BatD} {k:Nat} (h:xH l) (hb:b.evs.length≤8∧∀e∈b.evs,yY e):xH (l.set k b):=⟨by rw[List.length_set];exact h.1,fun x hx=>by
 rcases List.mem_or_eq_of_mem_set hx with h1 | h1
 · exact h.2 x h1
 · subst h1;exact hb⟩
theorem yW {l:List BatD} {k:Nat} (h:xH l) (hk:k<l.length):(l.getD k default).evs.length≤8∧∀e∈(l.getD k default).evs,yY e:=h.2 _ (uC l k hk)
theorem zJG {l:List BatD} {k:Nat} {z:Int} (h:xH l) (hk:k<l.length):xH (l.set k ⟨z,(l.getD k default).evs⟩):=zDD h (yW h hk)
theorem zJE {l:List BatD} {k:Nat} (h:xH l) (hk:k<l.length) (hm:0<(l.getD k default).evs.length):xH (l.set k ⟨(l.getD k default).job,(l.getD k default).evs.set 0 { (l.getD k default).evs.getD 0 default with val:=⟨#[113]⟩ }⟩) :=
 zDD h ⟨by rw[List.length_set];exact(yW h hk).1,fun x hx=>by
  rcases List.mem_or_eq_of_mem_set hx with h1 | h1
  · exact(yW h hk).2 x h1
  · subst h1;obtain⟨⟨a,b⟩,c⟩:=(yW h hk).2 _ (uC _ 0 hm)
    exact⟨⟨⟨a.1,a.2.1,(show(⟨#[113]⟩:ByteArray).size≤1048576 by decide)⟩,zKE⟩,c.1,zKE⟩⟩
theorem zBE {l:List BatD} {k:Nat} (h:xH l):xH (l.take k++l.drop (k+1)):=⟨by have:=h.1;simp;omega,fun x hx=>by
 rcases List.mem_append.1 hx with h1 | h1
 · exact h.2 x (List.mem_of_mem_take h1)
 · exact h.2 x (List.mem_of_mem_drop h1)⟩
end Go.Proofs.YtgmaamnofhmecaaGreatDoor
namespace Go.Proofs.YtgmaamnofhmecaaGreatDoor
open Go.RowKit
set_option linter.unusedVariables false
set_option maxRecDepth 100000 in
theorem zEf (c0 c1 c2 c3 c4:Value) (d:EvD) (w:World) (h:EvR w w.heap.size c0 c1 c2 c3 c4 d) (hsm:d.subs.length≤1048576) :
 Calls Tryz.prog 156 #[.agg #[c0,c1,c2,c3,c4]] w (zFJ (yG d) w):=by
 obtain⟨rfl,rfl,⟨S,m,q,rfl,hs,hmq⟩,rfl,rfl⟩:=h;have hm:m≤1048576:=by rw[←hs.1];exact hsm
 have HK:=zh (fun W (hW:Below w.heap.size w W)=>zBC S m q d.subs W (hs.later hW) hm);have HR:Hid (yG d=⟨if d.kind=3 then 2 else 1,d.name,d.subs,d.val⟩):=rfl;clear hs hsm;generalize yG d=R at *;generalize d.subs=ss at *;generalize d.name=nm at *;generalize d.val=vl at *;generalize d.kind=kd at *;generalize d.n=nn at *;obtain⟨WB,hWB⟩:∃WB,WB=(w.alloc (.cells #[.int .i64 kd,.string nm,.slice S m q,.string vl,.int .i64 nn] 55)).alloc (.cells #[.int .i64 0,.string ⟨#[]⟩,.slice none 0 0,.string ⟨#[]⟩] 88):=⟨_,rfl⟩;have HB0:Hid (Below w.heap.size w WB):=by subst hWB;exact(Below.new _ _).later (Below.new _ _)
 have HEE:Hid (Blk WB w.heap.size 55 #[.int .i64 kd,.string nm,.slice S m q,.string vl,.int .i64 nn]):=by subst hWB;exact uD _ _ _
 have HYY:Hid (Blk WB (w.heap.size+1) 88 #[.int .i64 0,.string ⟨#[]⟩,.slice none 0 0,.string ⟨#[]⟩]):=by subst hWB;exact xD _ _ _
 have q1:=HEE.out.cell 1;have q2:=HEE.out.cell 2;have q3:=HEE.out.cell 3;have hwb:=HB0.out.size;have hwe:=HEE.out.lt;have hwy:=HYY.out.lt;simp at q1 q2 q3;go_enter Tryz.func156,Tryz.ntmps156;by_cases hk:kd=3
 · have HE:Hid (R=⟨2,nm,ss,vl⟩):=by unfold Hid;rw[HR.out,if_pos hk]
   subst hk;clear HR;go_wp2_with fail;rw[←hWB];clear hWB
   go_region_held3 (fun w'=>w'.cell? ⟨w.heap.size,1,none⟩=some (.string nm)∧w'.cell? ⟨w.heap.size,2,none⟩=some (.slice S m q)∧w'.cell? ⟨w.heap.size,3,none⟩=some (.string vl))
    (first | with_reducible exact⟨q1,q2,q3⟩ | exact⟨cell_later HB1.out q1,cell_later HB1.out q2,cell_later HB1.out q3⟩ | go_keep)
    ((go_at_call 159
      refine(HK.out _ (by exact HB0.out.drew)).mono ?_;rintro e w1 ⟨A1,q1x,rfl,_,ho1',hb1'⟩;have HB1:=zh (zD0 hb1');have HO1:=zh ho1';have HY1:=zh (HYY.out.later HB1.out HYY.out.lt);have yf0:=HY1.out.frozen 0;have yf1:=HY1.out.frozen 1;have yf2:=HY1.out.frozen 2;have yf3:=HY1.out.frozen 3;have yz:=HY1.out.lt;have y0:=HY1.out.cell 0;have y1:=HY1.out.cell 1;have y2:=HY1.out.cell 2;have y3:=HY1.out.cell 3;simp at y0 y1 y2 y3
      clear hb1' ho1'))
   go_wp2_with fail;refine bodyPost_ret (v:=.agg #[.int .i64 2,.string nm,.slice A1 m q1x,.string vl]) (by simp[results,Tryz.results156,go_sem,y0,y1,y2,y3]) rfl ?_;refine⟨_,by rw[HE.out],?_,zAd (HB0.out.later HB1.out) (show w.heap.size≤w.heap.size+1 by omega) _ _ _ _⟩;rw[HE.out];exact zBt (Own.own_base HO1.out (by simpa using HB0.out.size)) HY1.out (by decide) _ _ _ _
 · have HE:Hid (R=⟨1,nm,ss,vl⟩):=by unfold Hid;rw[HR.out,if_neg hk]
   have hk1:(kd==(3:Int))=false:=beq_eq_false_iff_ne.2 hk;clear hk HR;go_wp2_with fail;rw[←hWB];clear hWB
   go_region_held3 (fun w'=>w'.cell? ⟨w.heap.size,1,none⟩=some (.string nm)∧w'.cell? ⟨w.heap.size,2,none⟩=some (.slice S m q)∧w'.cell? ⟨w.heap.size,3,none⟩=some (.string vl))
    (first | with_reducible exact⟨q1,q2,q3⟩ | exact⟨cell_later HB1.out q1,cell_later HB1.out q2,cell_later HB1.out q3⟩ | go_keep)
    ((go_at_call 159
      refine(HK.out _ (by exact HB0.out.drew)).mono ?_;rintro e w1 ⟨A1,q1x,rfl,_,ho1',hb1'⟩;have HB1:=zh (zD0 hb1');have HO1:=zh ho1';have HY1:=zh (HYY.out.later HB1.out HYY.out.lt);have yf0:=HY1.out.frozen 0;have yf1:=HY1.out.frozen 1;have yf2:=HY1.out.frozen 2;have yf3:=HY1.out.frozen 3;have yz:=HY1.out.lt;have y0:=HY1.out.cell 0;have y1:=HY1.out.cell 1;have y2:=HY1.out.cell 2;have y3:=HY1.out.cell 3;simp at y0 y1 y2 y3
      clear hb1' ho1'))
   go_wp2_with fail;refine bodyPost_ret (v:=.agg #[.int .i64 1,.string nm,.slice A1 m q1x,.string vl]) (by simp[results,Tryz.results156,go_sem,y0,y1,y2,y3]) rfl ?_;refine⟨_,by rw[HE.out],?_,zAd (HB0.out.later HB1.out) (show w.heap.size≤w.heap.size+1 by omega) _ _ _ _⟩;rw[HE.out];exact zBt (Own.own_base HO1.out (by simpa using HB0.out.size)) HY1.out (by decide) _ _ _ _
set_option maxRecDepth 100000 in
theorem zFv (c0 c1 c2 c3 c4:Value) (d:EvD) (w:World) (h:EvR w w.heap.size c0 c1 c2 c3 c4 d) (hsm:d.subs.length≤1048576) :
 Calls Tryz.prog 158 #[.agg #[c0,c1,c2,c3,c4]] w (zFJ (yG d) w):=by
 obtain⟨rfl,rfl,⟨S,m,q,rfl,hs,hmq⟩,rfl,rfl⟩:=h;have hm:m≤1048576:=by rw[←hs.1];exact hsm
 have HK:=zh (fun W (hW:Below w.heap.size w W)=>zV0 S m q d.subs W (hs.later hW) hm);have HR:Hid (yG d=⟨if d.kind=3 then 2 else 1,d.name,d.subs,d.val⟩):=rfl;clear hs hsm;generalize yG d=R at *;generalize d.subs=ss at *;generalize d.name=nm at *;generalize d.val=vl at *;generalize d.kind=kd at *;generalize d.n=nn at *;obtain⟨WB,hWB⟩:∃WB,WB=(w.alloc (.cells #[.int .i64 kd,.string nm,.slice S m q,.string vl,.int .i64 nn] 55)).alloc (.cells #[.int .i64 0,.string ⟨#[]⟩,.slice none 0 0,.string ⟨#[]⟩] 88):=⟨_,rfl⟩;have HB0:Hid (Below w.heap.size w WB):=by subst hWB;exact(Below.new _ _).later (Below.new _ _)
 have HEE:Hid (Blk WB w.heap.size 55 #[.int .i64 kd,.string nm,.slice S m q,.string vl,.int .i64 nn]):=by subst hWB;exact uD _ _ _
 have HYY:Hid (Blk WB (w.heap.size+1) 88 #[.int .i64 0,.string ⟨#[]⟩,.slice none 0 0,.string ⟨#[]⟩]):=by subst hWB;exact xD _ _ _
 have q1:=HEE.out.cell 1;have q2:=HEE.out.cell 2;have q3:=HEE.out.cell 3;have hwb:=HB0.out.size;have hwe:=HEE.out.lt;have hwy:=HYY.out.lt;simp at q1 q2 q3;go_enter Tryz.func158,Tryz.ntmps158;by_cases hk:kd=3
 · have HE:Hid (R=⟨2,nm,ss,vl⟩):=by unfold Hid;rw[HR.out,if_pos hk]
   subst hk;clear HR;go_wp2_with fail;rw[←hWB];clear hWB
   go_region_held3 (fun w'=>w'.cell? ⟨w.heap.size,1,none⟩=some (.string nm)∧w'.cell? ⟨w.heap.size,2,none⟩=some (.slice S m q)∧w'.cell? ⟨w.heap.size,3,none⟩=some (.string vl))
    (first | with_reducible exact⟨q1,q2,q3⟩ | exact⟨cell_later HB1.out q1,cell_later HB1.out q2,cell_later HB1.out q3⟩ | go_keep)
    ((go_at_call 169
      refine(HK.out _ (by exact HB0.out.drew)).mono ?_;rintro e w1 ⟨v1,rfl,ho1',hb1'⟩;have HB1:=zh (zD0 hb1');have HO1:=zh ho1';obtain⟨A1,m1,q1x,rfl⟩:∃A1 m1 q1x,v1=.slice A1 m1 q1x:=by obtain⟨A,cap,e,_⟩:=Own.own_slice ho1';exact⟨A,_,cap,e⟩
      have HY1:=zh (HYY.out.later HB1.out HYY.out.lt);have yf0:=HY1.out.frozen 0;have yf1:=HY1.out.frozen 1;have yf2:=HY1.out.frozen 2;have yf3:=HY1.out.frozen 3;have yz:=HY1.out.lt;have y0:=HY1.out.cell 0;have y1:=HY1.out.cell 1;have y2:=HY1.out.cell 2;have y3:=HY1.out.cell 3;simp at y0 y1 y2 y3
      clear hb1' ho1'))
   go_wp2_with fail;refine bodyPost_ret (v:=.agg #[.int .i64 2,.string nm,.slice A1 m1 q1x,.string vl]) (by simp[results,Tryz.results158,go_sem,y0,y1,y2,y3]) rfl ?_;refine⟨_,by rw[HE.out],?_,zAd (HB0.out.later HB1.out) (show w.heap.size≤w.heap.size+1 by omega) _ _ _ _⟩;rw[HE.out];exact zBt (Own.own_base HO1.out (by simpa using HB0.out.size)) HY1.out (by decide) _ _ _ _
 · have HE:Hid (R=⟨1,nm,ss,vl⟩):=by unfold Hid;rw[HR.out,if_neg hk]
   have hk1:(kd==(3:Int))=false:=beq_eq_false_iff_ne.2 hk;clear hk HR;go_wp2_with fail;rw[←hWB];clear hWB
   go_region_held3 (fun w'=>w'.cell? ⟨w.heap.size,1,none⟩=some (.string nm)∧w'.cell? ⟨w.heap.size,2,none⟩=some (.slice S m q)∧w'.cell? ⟨w.heap.size,3,none⟩=some (.string vl))
    (first | with_reducible exact⟨q1,q2,q3⟩ | exact⟨cell_later HB1.out q1,cell_later HB1.out q2,cell_later HB1.out q3⟩ | go_keep)
    ((go_at_call 169
      refine(HK.out _ (by exact HB0.out.drew)).mono ?_;rintro e w1 ⟨v1,rfl,ho1',hb1'⟩;have HB1:=zh (zD0 hb1');have HO1:=zh ho1';obtain⟨A1,m1,q1x,rfl⟩:∃A1 m1 q1x,v1=.slice A1 m1 q1x:=by obtain⟨A,cap,e,_⟩:=Own.own_slice ho1';exact⟨A,_,cap,e⟩
      have HY1:=zh (HYY.out.later HB1.out HYY.out.lt);have yf0:=HY1.out.frozen 0;have yf1:=HY1.out.frozen 1;have yf2:=HY1.out.frozen 2;have yf3:=HY1.out.frozen 3;have yz:=HY1.out.lt;have y0:=HY1.out.cell 0;have y1:=HY1.out.cell 1;have y2:=HY1.out.cell 2;have y3:=HY1.out.cell 3;simp at y0 y1 y2 y3
      clear hb1' ho1'))
   go_wp2_with fail;refine bodyPost_ret (v:=.agg #[.int .i64 1,.string nm,.slice A1 m1 q1x,.string vl]) (by simp[results,Tryz.results158,go_sem,y0,y1,y2,y3]) rfl ?_;refine⟨_,by rw[HE.out],?_,zAd (HB0.out.later HB1.out) (show w.heap.size≤w.heap.size+1 by omega) _ _ _ _⟩;rw[HE.out];exact zBt (Own.own_base HO1.out (by simpa using HB0.out.size)) HY1.out (by decide) _ _ _ _
end Go.Proofs.YtgmaamnofhmecaaGreatDoor
