import Derived.Test.YtfpcjhajjejpdaaGreatDoorY19
import Derived.Test.YtfpcjhajjejpdaaGreatDoorY20
import Derived.Test.YtfpcjhajjejpdaaGreatDoorY11
set_option maxHeartbeats 4000000
open Go.Lib renaming hid → zh
namespace Go.Proofs.YtfpcjhajjejpdaaGreatDoor.Stab
section
variable {α:Type}
def seg (d:Nat→α) (a b:Nat):List α:=(List.range' a (b-a)).map d
theorem zKu (d:Nat→α) (a b:Nat):(seg d a b).length=b-a:=by simp[seg]
theorem seg_nil (d:Nat→α) {a b:Nat} (h:b≤a):seg d a b=[]:=by
 unfold seg;rw[Nat.sub_eq_zero_of_le h];rfl
theorem seg_cons (d:Nat→α) {a b:Nat} (h:a<b):seg d a b=d a::seg d (a+1) b:=by
 unfold seg;rw[show b-a=(b-(a+1))+1 by omega,List.range'_succ];rfl
theorem seg_at (d:Nat→α) (a b i:Nat):(seg d a b)[i]?=if i<b-a then some (d (a+i)) else none:=by
 unfold seg;by_cases h:i<b-a
 · rw[if_pos h,List.getElem?_map,List.getElem?_range' h];simp
 · rw[if_neg h,List.getElem?_eq_none (by simp;omega)]
theorem seg_split (d:Nat→α) {a m b:Nat} (h1:a≤m) (h2:m≤b):seg d a b=seg d a m++seg d m b:=by
 apply List.ext_getElem?;intro i;rw[List.getElem?_append,seg_at,seg_at,seg_at,zKu];by_cases h:i<m-a
 · rw[if_pos h,if_pos (by omega),if_pos h]
 · rw[if_neg h];by_cases h3:i<b-a
   · rw[if_pos h3,if_pos (by omega)];congr 2;omega
   · rw[if_neg h3,if_neg (by omega)]
theorem seg_snoc (d:Nat→α) {a b:Nat} (h:a≤b):seg d a (b+1)=seg d a b++[d b]:=by
 rw[seg_split d h (Nat.le_succ b),seg_cons d (Nat.lt_succ_self b),seg_nil d (Nat.le_refl _)]
theorem zBT {d d':Nat→α} {a a' b b':Nat} (hl:b-a=b'-a') (h:∀t,t<b-a→d (a+t)=d' (a'+t)):seg d a b=seg d' a' b':=by
 apply List.ext_getElem?;intro i;rw[seg_at,seg_at,hl];by_cases h3:i<b'-a'
 · rw[if_pos h3,if_pos h3,h i (by omega)]
 · rw[if_neg h3,if_neg h3]
theorem seg_congr {d d':Nat→α} {a b:Nat} (h:∀t,a≤t→t<b→d t=d' t):seg d a b=seg d' a b:=zBT rfl fun t ht=>h _ (by omega) (by omega)
theorem mem_seg {d:Nat→α} {a b:Nat} {x:α}:x∈seg d a b↔∃t,a≤t∧t<b∧d t=x:=by
 unfold seg;rw[List.mem_map];constructor
 · rintro⟨t,ht,rfl⟩;rw[List.mem_range'_1]at ht;exact⟨t,by omega,by omega,rfl⟩
 · rintro⟨t,h1,h2,rfl⟩;exact⟨t,by rw[List.mem_range'_1];omega,rfl⟩
theorem seg_set (d:Nat→α) {a b i:Nat} (x:α) (h:a+i<b):(seg d a b).set i x=seg (fun t=>if t=a+i then x else d t) a b:=by
 apply List.ext_getElem?;intro j;rw[List.getElem?_set,seg_at,seg_at,zKu];by_cases e:i=j
 · subst e;rw[if_pos rfl,if_pos (by omega),if_pos (by omega),if_pos rfl]
 · rw[if_neg e];by_cases h3:j<b-a
   · rw[if_pos h3,if_pos h3,if_neg (by omega)]
   · rw[if_neg h3,if_neg h3]
theorem zBR {lt:α→α→Bool} {d:Nat→α} {a b:Nat} (h:Srt lt (seg d a b)) {i j:Nat} (hi:a≤i) (hij:i<j) (hj:j<b):lt (d j) (d i)=false:=by
 unfold Srt at h;rw[seg_split d (show a≤j by omega) (by omega),List.pairwise_append]at h;exact h.2.2 (d i) (mem_seg.2 ⟨i,hi,hij,rfl⟩) (d j) (mem_seg.2 ⟨j,Nat.le_refl _,hj,rfl⟩)
theorem zEu {lt:α→α→Bool} {d:Nat→α} {a b a' b':Nat} (h:Srt lt (seg d a b)) (h1:a≤a') (h2:b'≤b):Srt lt (seg d a' b'):=by
 rcases Nat.lt_or_ge a' b' with h3 | h3
 · unfold Srt at *;rw[seg_split d h1 (show a'≤b by omega),List.pairwise_append]at h;have h4:=h.2.1;rw[seg_split d (show a'≤b' by omega) h2,List.pairwise_append]at h4;exact h4.1
 · rw[seg_nil d h3];exact List.Pairwise.nil
def swp (d:Nat→α) (i j:Nat):Nat→α:=fun t=>if t=i then d j else if t=j then d i else d t
def Same (d d':Nat→α) (a b:Nat):Prop:=∀t,¬(a≤t∧t<b)→d' t=d t
def mv (d:Nat→α) (i j:Nat):Nat→α:=fun t=>if t=j then d i else if j<t∧t≤i then d (t-1) else d t
theorem mv_self (d:Nat→α) (i:Nat):mv d i i=d:=by
 funext t
 unfold mv;by_cases h:t=i
 · rw[if_pos h,h]
 · rw[if_neg h,if_neg (by omega)]
theorem mv_step (d:Nat→α) {i j:Nat} (h:0<j) (hj:j≤i):swp (mv d i j) j (j-1)=mv d i (j-1):=by
 funext t
 unfold swp mv;by_cases h1:t=j
 · subst h1;rw[if_pos rfl,if_neg (by omega),if_neg (by omega),if_neg (by omega),if_pos (by omega)]
 · rw[if_neg h1];by_cases h2:t=j-1
   · subst h2;rw[if_pos rfl,if_pos rfl,if_pos rfl]
   · rw[if_neg h2,if_neg h1,if_neg h2];by_cases h3:j<t∧t≤i
     · rw[if_pos h3,if_pos (by omega)]
     · rw[if_neg h3,if_neg (by omega)]
theorem mv_same (d:Nat→α) {a b i j:Nat} (ha:a≤j) (hji:j≤i) (hb:i<b):Same d (mv d i j) a b:=by
 intro t ht;unfold mv;rw[if_neg (by omega),if_neg (by omega)]
theorem zNG (d:Nat→α) {a i j:Nat} (ha:a≤j) (hji:j≤i):seg (mv d i j) a (i+1)=seg d a j++d i::seg d j i:=by
 rw[seg_split (mv d i j) ha (show j≤i+1 by omega),seg_cons (mv d i j) (show j<i+1 by omega)]
 congr 1
 · exact seg_congr fun t h1 h2=>by unfold mv;rw[if_neg (by omega),if_neg (by omega)]
 · congr 1
   · unfold mv;rw[if_pos rfl]
   · exact zBT (by omega) fun t ht=>by
      unfold mv;rw[if_neg (by omega),if_pos (by omega)]
      congr 1
      omega
def mvu (d:Nat→α) (i j:Nat):Nat→α:=fun t=>if t=j then d i else if i≤t∧t<j then d (t+1) else d t
theorem mvu_self (d:Nat→α) (i:Nat):mvu d i i=d:=by
 funext t
 unfold mvu;by_cases h:t=i
 · rw[if_pos h,h]
 · rw[if_neg h,if_neg (by omega)]
theorem mvu_step (d:Nat→α) {i j:Nat} (hj:i≤j):swp (mvu d i j) j (j+1)=mvu d i (j+1):=by
 funext t
 unfold swp mvu;by_cases h1:t=j
 · subst h1;rw[if_pos rfl,if_neg (by omega),if_neg (by omega),if_neg (by omega),if_pos (by omega)]
 · rw[if_neg h1];by_cases h2:t=j+1
   · subst h2;rw[if_pos rfl,if_pos rfl,if_pos rfl]
   · rw[if_neg h2,if_neg h1,if_neg h2];by_cases h3:i≤t∧t<j
     · rw[if_pos h3,if_pos (by omega)]
     · rw[if_neg h3,if_neg (by omega)]
theorem mvu_same (d:Nat→α) {a b i j:Nat} (ha:a≤i) (hji:i≤j) (hb:j<b):Same d (mvu d i j) a b:=by
 intro t ht;unfold mvu;rw[if_neg (by omega),if_neg (by omega)]
theorem zMU (d:Nat→α) {i j b:Nat} (hij:i≤j) (hb:j<b):seg (mvu d i j) i b=seg d (i+1) (j+1)++d i::seg d (j+1) b:=by
 rw[seg_split (mvu d i j) hij (show j≤b by omega),seg_cons (mvu d i j) hb]
 congr 1
 · exact zBT (by omega) fun t ht=>by
    unfold mvu;rw[if_neg (by omega),if_pos (by omega)]
    congr 1
    omega
 · congr 1
   · unfold mvu;rw[if_pos rfl]
   · exact seg_congr fun t h1 h2=>by unfold mvu;rw[if_neg (by omega),if_neg (by omega)]
def rot (d:Nat→α) (a m b:Nat):Nat→α:=fun t=>if a≤t∧t<b then (if t<a+(b-m) then d (t-a+m) else d (t-(b-m))) else d t
def swr (d:Nat→α) (a b i:Nat):Nat→α:=fun t=>if a≤t∧t<a+i then d (t-a+b) else if b≤t∧t<b+i then d (t-b+a) else d t
theorem swr_zero (d:Nat→α) (a b:Nat):swr d a b 0=d:=by
 funext t
 unfold swr;rw[if_neg (by omega),if_neg (by omega)]
theorem swr_step (d:Nat→α) {a b i n:Nat} (h:a+n≤b) (hi:i<n):swp (swr d a b i) (a+i) (b+i)=swr d a b (i+1):=by
 funext t
 unfold swp swr;by_cases h1:t=a+i
 · subst h1;rw[if_pos rfl,if_neg (by omega),if_neg (by omega),if_pos (by omega)]
   congr 1;omega
 · rw[if_neg h1];by_cases h2:t=b+i
   · subst h2;rw[if_pos rfl,if_neg (by omega),if_neg (by omega),if_neg (by omega),if_pos (by omega)]
     congr 1;omega
   · rw[if_neg h2];by_cases h3:a≤t∧t<a+i
     · rw[if_pos h3,if_pos (by omega)]
     · rw[if_neg h3,if_neg (show ¬(a≤t∧t<a+(i+1)) by omega)];by_cases h4:b≤t∧t<b+i
       · rw[if_pos h4,if_pos (by omega)]
       · rw[if_neg h4,if_neg (by omega)]
theorem rot_more (d:Nat→α) {m i j:Nat} (h:j<i) (him:i≤m):rot (swr d (m-i) m j) (m-(i-j)) m (m+j)=rot d (m-i) m (m+j):=by
 funext t
 unfold rot swr;rw[show m+j-m=j by omega];by_cases h1:m-(i-j)≤t∧t<m+j
 · rw[if_pos h1,if_pos (show m-i≤t∧t<m+j by omega)];by_cases h2:t<m-(i-j)+j
   · rw[if_pos h2];by_cases h3:t<m-i+j
     · omega
     · rw[if_neg h3,if_neg (by omega),if_pos (by omega)]
       congr 1;omega
   · rw[if_neg h2,if_neg (by omega),if_neg (by omega),if_neg (by omega)]
 · rw[if_neg h1];by_cases h4:m-i≤t∧t<m+j
   · rw[if_pos h4,if_pos (by omega),if_pos (by omega)]
   · rw[if_neg h4,if_neg (by omega),if_neg (by omega)]
theorem rot_less (d:Nat→α) {m i j:Nat} (h:i<j) (him:i≤m):rot (swr d (m-i) (m+j-i) i) (m-i) m (m+(j-i))=rot d (m-i) m (m+j):=by
 funext t
 unfold rot swr;rw[show m+(j-i)-m=j-i by omega,show m+j-m=j by omega];by_cases h1:m-i≤t∧t<m+(j-i)
 · rw[if_pos h1,if_pos (show m-i≤t∧t<m+j by omega)];by_cases h2:t<m-i+(j-i)
   · rw[if_pos h2,if_neg (by omega),if_neg (by omega),if_pos (by omega)]
   · rw[if_neg h2,if_pos (by omega),if_pos (by omega)]
     congr 1;omega
 · rw[if_neg h1];by_cases h4:m-i≤t∧t<m+j
   · rw[if_pos h4,if_neg (by omega),if_pos (by omega)];by_cases h5:t<m-i+j
     · omega
     · rw[if_neg h5]
       congr 1;omega
   · rw[if_neg h4,if_neg (by omega),if_neg (by omega)]
theorem rot_same (d:Nat→α) {m i:Nat} (him:i≤m):swr d (m-i) m i=rot d (m-i) m (m+i):=by
 funext t
 unfold rot swr;rw[show m+i-m=i by omega];by_cases h1:m-i≤t∧t<m-i+i
 · rw[if_pos h1,if_pos (by omega),if_pos (by omega)]
 · rw[if_neg h1];by_cases h2:m≤t∧t<m+i
   · rw[if_pos h2,if_pos (by omega),if_neg (by omega)]
     congr 1;omega
   · rw[if_neg h2,if_neg (by omega)]
theorem zKw (d:Nat→α) {a m b a' b':Nat} (h1:a'≤a) (h2:b≤b'):Same d (rot d a m b) a' b':=by
 intro t ht;unfold rot;rw[if_neg (by omega)]
theorem zMP (d:Nat→α) {a m b:Nat} (h1:a≤m) (h2:m≤b):seg (rot d a m b) a (a+(b-m))=seg d m b:=by
 apply zBT (by omega);intro t ht;unfold rot;rw[if_pos (by omega),if_pos (by omega)]
 congr 1;omega
theorem zMO (d:Nat→α) {a m b:Nat} (h1:a≤m) (h2:m≤b):seg (rot d a m b) (a+(b-m)) b=seg d a m:=by
 apply zBT (by omega);intro t ht;unfold rot;rw[if_pos (by omega),if_neg (by omega)]
 congr 1;omega
theorem Same.refl (d:Nat→α) (a b:Nat):Same d d a b:=fun _ _=>rfl
theorem Same.trans {d d1 d2:Nat→α} {a b:Nat} (h:Same d d1 a b) (h':Same d1 d2 a b):Same d d2 a b:=fun t ht=>(h' t ht).trans (h t ht)
theorem Same.wide {d d1:Nat→α} {a b a' b':Nat} (h:Same d d1 a b) (h1:a'≤a) (h2:b≤b'):Same d d1 a' b':=fun t ht=>h t (by omega)
theorem sym_cut {lt:α→α→Bool} (hw:Weak lt) {d:Nat→α} {a m b mid start stop lo hi:Nat} (hX:Srt lt (seg d a m)) (hY:Srt lt (seg d m b)) (hmid:mid=(a+b) / 2)
 (hstop:start+stop=mid+m) (hlo:lo≤start) (hhi:start≤hi) (hl:lo=if m>mid then mid+m-b else a) (hh:hi=if m>mid then mid else m)
 (h1:start=lo∨lt (d (mid+m-1-(start-1))) (d (start-1))=false) (h2:start=hi∨lt (d (mid+m-1-start)) (d start)=true) :
 a≤start∧start≤m∧m≤stop∧stop≤b∧start≤mid∧mid≤stop∧mrg lt (seg d a m) (seg d m b)=mrg lt (seg d a start) (seg d m stop)++mrg lt (seg d start m) (seg d stop b):=by
 have hb:a≤start∧start≤m∧m≤stop∧stop≤b∧start≤mid∧mid≤stop:=by split at hl <;> split at hh <;> omega
 obtain⟨q1,q2,q3,q4,q5,q6⟩:=hb;refine⟨q1,q2,q3,q4,q5,q6,?_⟩;rw[seg_split d q1 q2,seg_split d q3 q4];apply wS
 · intro y hy x hx;obtain⟨t,ht1,ht2,rfl⟩:=mem_seg.1 hy;obtain⟨s,hs1,hs2,rfl⟩:=mem_seg.1 hx
   have hb2:lt (d (stop-1)) (d start)=true:=by
    rcases h2 with h2 | h2
    · exfalso;split at hh <;> omega
    · rw[show mid+m-1-start=stop-1 by omega]at h2;exact h2
   have e1:lt (d (stop-1)) (d t)=false:=by
    rcases Nat.lt_or_ge t (stop-1) with h | h
    · exact zBR hY ht1 h (by omega)
    · rw[show stop-1=t by omega];exact hw.irr _
   have e2:lt (d s) (d start)=false:=by
    rcases Nat.lt_or_ge start s with h | h
    · exact zBR hX q1 h hs2
    · rw[show s=start by omega];exact hw.irr _
   cases e3:lt (d t) (d s)
   · have:=hw.neg _ _ _ (hw.neg _ _ _ e1 e3) e2;rw[hb2]at this;cases this
   · rfl
 · intro x hx y hy;obtain⟨t,ht1,ht2,rfl⟩:=mem_seg.1 hy;obtain⟨s,hs1,hs2,rfl⟩:=mem_seg.1 hx
   have hb2:lt (d stop) (d (start-1))=false:=by
    rcases h1 with h1 | h1
    · exfalso;split at hl <;> omega
    · rw[show mid+m-1-(start-1)=stop by omega]at h1;exact h1
   have e1:lt (d t) (d stop)=false:=by
    rcases Nat.lt_or_ge stop t with h | h
    · exact zBR hY q3 h ht2
    · rw[show t=stop by omega];exact hw.irr _
   have e2:lt (d (start-1)) (d s)=false:=by
    rcases Nat.lt_or_ge s (start-1) with h | h
    · exact zBR hX hs1 h (by omega)
    · rw[show start-1=s by omega];exact hw.irr _
   exact hw.neg _ _ _ (hw.neg _ _ _ e1 hb2) e2
theorem ins_cut {lt:α→α→Bool} (hw:Weak lt) {d:Nat→α} {a i j:Nat} (hX:Srt lt (seg d a i)) (ha:a≤j) (hji:j≤i) (h1:j=a∨lt (d i) (d (j-1))=false) (h2:j=i∨lt (d i) (d j)=true) :
 seg (mv d i j) a (i+1)=mrg lt (seg d a i) [d i]:=by
 rw[zNG d ha hji,seg_split d ha hji,zJC]
 · intro x hx;obtain⟨t,ht1,ht2,rfl⟩:=mem_seg.1 hx;rcases h1 with h1 | h1
   · omega
   · rcases Nat.lt_or_ge t (j-1) with h | h
     · exact hw.neg _ _ _ h1 (zBR hX ht1 h (by omega))
     · rw[show t=j-1 by omega];exact h1
 · intro x hx;obtain⟨t,ht1,ht2,rfl⟩:=mem_seg.1 hx;rcases h2 with h2 | h2
   · omega
   · cases e3:lt (d i) (d t)
     · rcases Nat.lt_or_ge j t with h | h
       · have:=hw.neg _ _ _ e3 (zBR hX ha h ht2);rw[h2]at this;cases this
       · rw[show t=j by omega,h2]at e3;cases e3
     · rfl
theorem insu_cut {lt:α→α→Bool} (hw:Weak lt) {d:Nat→α} {a b j:Nat} (hY:Srt lt (seg d (a+1) b)) (ha:a≤j) (hjb:j<b) (h1:j=a∨lt (d j) (d a)=true) (h2:j+1=b∨lt (d (j+1)) (d a)=false) :
 seg (mvu d a j) a b=mrg lt [d a] (seg d (a+1) b):=by
 rw[zMU d ha hjb,seg_split d (show a+1≤j+1 by omega) (show j+1≤b by omega),zJx]
 · intro x hx;obtain⟨t,ht1,ht2,rfl⟩:=mem_seg.1 hx;rcases h1 with h1 | h1
   · omega
   · cases e3:lt (d t) (d a)
     · rcases Nat.lt_or_ge t j with h | h
       · have:=hw.neg _ _ _ (zBR hY ht1 h hjb) e3;rw[h1]at this;cases this
       · rw[show t=j by omega,h1]at e3;cases e3
     · rfl
 · intro x hx;obtain⟨t,ht1,ht2,rfl⟩:=mem_seg.1 hx;rcases h2 with h2 | h2
   · omega
   · rcases Nat.lt_or_ge (j+1) t with h | h
     · exact hw.neg _ _ _ (zBR hY (by omega) h ht2) h2
     · rw[show t=j+1 by omega];exact h2
end
end Go.Proofs.YtfpcjhajjejpdaaGreatDoor.Stab
namespace Go.Proofs.YtfpcjhajjejpdaaGreatDoor
open Go.RowKit
set_option linter.unusedVariables false
abbrev uP:=Value × List ByteArray
def ltI (lt:List ByteArray→List ByteArray→Bool) (x y:uP):Bool:=lt x.2 y.2
theorem zBX {lt:List ByteArray→List ByteArray→Bool} (h:Stab.Weak lt):Stab.Weak (ltI lt):=⟨fun a=>h.irr _,fun a b c=>h.trans _ _ _,fun a b c=>h.neg _ _ _⟩
def SrtR (w:World) (base g n cap:Nat) (d:Nat→uP):Prop:=w.ownsRow base 40 1 (.slice (some ⟨g,0,none⟩) n cap) n ((Stab.seg d 0 n).map Prod.fst)
theorem SrtR.later {w w':World} {base g n cap:Nat} {d:Nat→uP} (h:SrtR w base g n cap d) (hb:Below w.heap.size w w'):SrtR w' base g n cap d:=Own.own_later h hb
theorem SrtR.at {w:World} {base g n cap:Nat} {d:Nat→uP} (h:SrtR w base g n cap d) {j:Nat} (hj:j<n):w.cell? ⟨g,j,none⟩=some (d j).1:=by
 refine Own.own_cell h j _ (by omega) ?_;rw[List.getElem?_map,Stab.seg_at,if_pos (by omega),Nat.zero_add];rfl
theorem SrtR.blk {w:World} {base g n cap:Nat} {d:Nat→uP} (h:SrtR w base g n cap d):∃cur,Blk w g 40 cur:=Own.own_blk h
theorem SrtR.frozen {w:World} {base g n cap:Nat} {d:Nat→uP} (h:SrtR w base g n cap d) (j:Nat):w.frozen? ⟨g,j,none⟩=false:=by
 obtain⟨cur,hc⟩:=h.blk;exact hc.frozen j
theorem SrtR.lt {w:World} {base g n cap:Nat} {d:Nat→uP} (h:SrtR w base g n cap d):base≤g∧g<w.heap.size:=World.ownsRow.lt h g rfl
theorem SrtR.set {w:World} {base g n cap:Nat} {d:Nat→uP} (h:SrtR w base g n cap d) {i:Nat} (hi:i<n) (x:uP):SrtR (w.setCell ⟨g,i,none⟩ x.1) base g n cap (fun t=>if t=i then x else d t)∧w.grownBy (w.setCell ⟨g,i,none⟩ x.1) (some g):=by
 obtain⟨h1,h2⟩:=World.ownsRow.stored h i x.1;refine⟨?_,h2⟩;unfold SrtR;have e:=Stab.seg_set d (a:=0) (b:=n) (i:=i) x (by omega);rw[Nat.zero_add]at e;rw[←e,List.map_set];exact h1
theorem SrtR.swap {w:World} {base g n cap:Nat} {d:Nat→uP} (h:SrtR w base g n cap d) {i j:Nat} (hi:i<n) (hj:j<n) :
 SrtR ((w.setCell ⟨g,i,none⟩ (d j).1).setCell ⟨g,j,none⟩ (d i).1) base g n cap (Stab.swp d i j)∧(∀w0,Below base w0 w→Below base w0 ((w.setCell ⟨g,i,none⟩ (d j).1).setCell ⟨g,j,none⟩ (d i).1)):=by
 have h1:=h.set hi (d j);have h2:=h1.1.set hj (d i);refine⟨?_,fun w0 hb=>(hb.setCell (p:=⟨g,i,none⟩) h.lt.1 _).setCell (p:=⟨g,j,none⟩) h.lt.1 _⟩
 have e:(fun t=>if t=j then d i else (fun t=>if t=i then d j else d t) t)=Stab.swp d i j:=by
  funext t
  unfold Stab.swp;by_cases e1:t=j
  · subst e1;by_cases e2:t=i
    · subst e2;simp
    · simp[e2]
  · simp[e1]
 rw[←e];exact h2.1
def GoodR (w0:World) (P:List ByteArray→Prop) (n:Nat) (d:Nat→uP):Prop:=∀t,t<n→P (d t).2∧RowR w0 w0.heap.size (d t).1 (d t).2
theorem GoodR.swp {w0:World} {P:List ByteArray→Prop} {n:Nat} {d:Nat→uP} (h:GoodR w0 P n d) {i j:Nat} (hi:i<n) (hj:j<n):GoodR w0 P n (Stab.swp d i j):=by
 intro t ht;unfold Stab.swp;split
 · exact h j hj
 · split
   · exact h i hi
   · exact h t ht
def CmpOk (f:Nat) (caps:Array Value) (cmp:List ByteArray→List ByteArray→Int) (P:List ByteArray→Prop) (w0:World):Prop :=
 ∀x y x0 y0 W,Below w0.heap.size w0 W→P x→P y→RowR W W.heap.size x0 x→RowR W W.heap.size y0 y→Calls Tryz.prog f (#[.agg #[x0],.agg #[y0]]++caps) W fun e w'=>e=.returned (.int .i64 (cmp x y))∧Below W.heap.size W w'
theorem CmpOk.at {f:Nat} {caps:Array Value} {cmp:List ByteArray→List ByteArray→Int} {P:List ByteArray→Prop} {w0 W:World} {n:Nat} {d:Nat→uP} (h:CmpOk f caps cmp P w0) (hg:GoodR w0 P n d) (hb:Below w0.heap.size w0 W) {i j:Nat} (hi:i<n) (hj:j<n) :
 Calls Tryz.prog f (#[.agg #[(d i).1],.agg #[(d j).1]]++caps) W fun e w'=>e=.returned (.int .i64 (cmp (d i).2 (d j).2))∧Below W.heap.size W w' :=
 h _ _ _ _ W hb (hg i hi).1 (hg j hj).1 ((hg i hi).2.later hb) ((hg j hj).2.later hb)
theorem GoodR.val {w0:World} {P:List ByteArray→Prop} {n:Nat} {d:Nat→uP} (h:GoodR w0 P n d) {t:Nat} (ht:t<n):∃A m c,(d t).1=.slice A m c:=by
 obtain⟨A,m,c,e,_,_⟩:=(h t ht).2;exact⟨A,m,c,e⟩
structure SrtSt (w0:World) (P:List ByteArray→Prop) (g n cap:Nat) (w:World) (d:Nat→uP):Prop where
 row:SrtR w w0.heap.size g n cap d
 good:GoodR w0 P n d
 below:Below w0.heap.size w0 w
theorem SrtSt.later {w0 w w':World} {P:List ByteArray→Prop} {g n cap:Nat} {d:Nat→uP} (h:SrtSt w0 P g n cap w d) (hb:Below w.heap.size w w'):SrtSt w0 P g n cap w' d:=⟨h.row.later hb,h.good,h.below.later hb⟩
theorem SrtSt.swap {w0 w:World} {P:List ByteArray→Prop} {g n cap:Nat} {d:Nat→uP} (h:SrtSt w0 P g n cap w d) {i j:Nat} (hi:i<n) (hj:j<n):SrtSt w0 P g n cap ((w.setCell ⟨g,i,none⟩ (d j).1).setCell ⟨g,j,none⟩ (d i).1) (Stab.swp d i j) :=
 ⟨(h.row.swap hi hj).1,h.good.swp hi hj,(h.row.swap hi hj).2 w0 h.below⟩
end Go.Proofs.YtfpcjhajjejpdaaGreatDoor
namespace Go.Proofs.YtfpcjhajjejpdaaGreatDoor
open Go.RowKit
theorem zBK {zero:Array Value} {m:Nat} {u:Value} (h:u∈(Builtin.zeroCells zero m).toList):u∈zero.toList:=by
 unfold Builtin.zeroCells at h;simp only[Array.toList_map,List.mem_map]at h;obtain⟨i,hi,rfl⟩:=h;have hi':i<m*zero.size:=by simpa using hi
 have hz:0<zero.size:=by
  rcases Nat.eq_zero_or_pos zero.size with e | e
  · rw[e]at hi';omega
  · exact e
 rw[getElem!_pos zero _ (Nat.mod_lt _ hz)];simp
theorem zLQ (w:World):(zeroValue 83).run Tryz.prog w=.ok (.agg #[.string .empty,.slice none 0 0,.string .empty]) w:=by kernel_rfl
def zNW (R:List Value→NodeD→Prop) (base:Nat) (w:World) (fs:List NodeD) (e:Ending) (w':World):Prop:=∃v cs,e=.returned v∧w'.ownsRow base 83 3 v fs.length cs∧CellsG 3 R fs cs∧Below base w w'
set_option maxRecDepth 100000 in
theorem zKn (w0:World) (A:Option Addr) (n c:Nat) (fs:List NodeD) (w:World) (h:Nodes w0 w0.heap.size A n fs) (hb:Below w0.heap.size w0 w) (hn:n≤1048576) :
 Calls Tryz.prog 135 #[.slice A n c] w (zNW (zDT w0 w0.heap.size) w.heap.size w fs):=by
 obtain⟨i0,hi,hz0,hz1,hz2⟩:=info_parts zBf;have hlen:=h.1;obtain⟨cs,hc,hr⟩:=zDS h;have Hh:=zh ((hr.below hb).more hb.size);have HC:=zh hc;have Hlen:=zh hlen;have H1:=zh (hc.all zGm)
 cases A with
 | none =>
   have hn0:n=0:=by
    rcases Nat.eq_zero_or_pos n with h0 | h0
    · exact h0
    · obtain⟨b,o,e,_⟩:=h.2 h0;cases e
   have hf0:Hid (fs.length=0∧cs=[]):=⟨by rw[hlen,hn0],List.eq_nil_of_length_eq_zero (by rw[hc.len,hlen,hn0])⟩;clear h hc hr hlen hb;subst hn0;have hnil:=fun (W:World)=>Lib.run_eql_slice_nil (P:=Tryz.prog) W 24 83 none 0 c 0 0 Tryz.underlying24;go_enter Tryz.func135,Tryz.ntmps135;go_wp2_with fail;go_ret;refine⟨_,cs,rfl,?_,HC.out,Below.refl _ _⟩;rw[hf0.out.1,hf0.out.2];exact World.ownsRow_nil _ _ _ _
 | some ad =>
   clear h hc hr hlen hb;have hnil:=fun (W:World)=>Lib.run_eql_slice_nil (P:=Tryz.prog) W 24 83 (some ad) n c 0 0 Tryz.underlying24;go_enter Tryz.func135,Tryz.ntmps135;go_wp2_with (at_builtin;refine uI _ rfl (.tmp 5) (.tmp 6) 24 rfl w.heap.size 83 i0 _ 3 56 Tryz.underlying24 hi hz0 hz1 hz2 rfl (by decide) _ 0 [] rfl (World.ownsRow_lit _ _ 0 (Nat.le_refl _) (by omega) rfl) w.heap.size (some ad) n c cs rfl (Hh.out.alloc (Nat.le_refl _) _) H1.out ?c1 ?c2 ?c3 ?_);case c1=>unfold maxLen;omega
   case c2=>omega
   case c3=>simp
   intro v w1 ho hg _;have HB:=zh (xN (w0:=w) (size:=3) (n:=0) (xs:=[]) (Below.new _ _) (World.ownsRow_lit _ _ 0 (Nat.le_refl _) (by omega) rfl) (Nat.le_refl _) hg);have HO:=zh ho;clear ho hg;go_wp2_with fail;go_ret;exact⟨_,cs,rfl,by have hx:=HO.out;simpa [Hlen.out] using hx,HC.out,HB.out⟩
set_option maxRecDepth 100000 in
theorem zBH (g:Nat) (lb:Array Value) (p:NodeD→Bool) (v:Value) (fs:List NodeD) (cs:List Value) (w0 w:World) (R:List Value→NodeD→Prop) (hR:∀c d,R c d→zDT w0 w0.heap.size c d) (h:w.ownsRow w0.heap.size 83 3 v fs.length cs) (hc:CellsG 3 R fs cs) (hb:Below w0.heap.size w0 w) (hn:fs.length≤1048576)
 (eg:∀args w,(callFunc g args).run Tryz.prog w=.ok (.enter g args) w) (hg:zDo g lb p fs w0) :
 Calls Tryz.prog 66 #[v,.func (.func g) #[] lb] w (zNW R w0.heap.size w0 (fs.filter fun d=>!p d)):=by
 obtain⟨A,cap,rfl,hcap,hN⟩:=zM0 h rfl (cellsN_iff.2 (hc.mono hR)) hb;obtain⟨_,_,e0,_,hcm,hA⟩:=Own.own_slice h;injection e0 with e1 _ e2;subst e1 e2;have HK:=zh (zDp g lb p A fs.length cap fs w hN hn eg (fun d hd c0 c1 c2 W hW hr=>hg d hd c0 c1 c2 W (hb.trans (hW.mono hb.size)) hr));have HX:=zh (zCH p fs 0);have HO0:=zh h;have HC:=zh hc;have HB0:=zh hb;have Hg:=zh hg;clear h hc hb hg hN;rcases HX.out with ⟨e1,e2⟩ | ⟨k0,hk0,e1,e2⟩
 · rw[e1]at HK;rw[e2];clear e1 e2 HX;go_enter Tryz.func66,Tryz.ntmps66;go_wp2_with fail;refine HK.out.mono ?_;rintro e w1 ⟨rfl,hb1⟩;have HB1:=zh hb1;clear hb1;go_wp2_with fail;go_ret;exact⟨_,cs,rfl,Own.own_later HO0.out HB1.out,HC.out,HB0.out.later HB1.out⟩
 · rw[e1,Nat.zero_add]at HK;obtain⟨g0,rfl,hgl,hgb⟩:=hA (by omega);have HS:=zh (KeptG.start (p:=p) HC.out hk0 e2);have HL:Hid (cs.length=fs.length*3):=HC.out.len;clear e1 e2 HX hA;generalize hnn:fs.length=n at *;have Hlen:=zh hnn;clear hnn;have hne1:((k0:Int)==-1)=false:=beq_eq_false_iff_ne.2 (by omega);go_enter Tryz.func66,Tryz.ntmps66;go_wp2_with fail;refine HK.out.mono ?_;rintro e w1 ⟨rfl,hb1⟩;have HO1:=zh (Own.own_later HO0.out hb1);have HB1:=zh (HB0.out.later hb1);clear hb1;go_wp2_with fail;go_loopw [5,6] (fun i j wr=>∃(ii jj:Nat) (ys:List Value),i=.int .i64 ii∧j=.int .i64 jj∧wr.ownsRow w0.heap.size 83 3 (.slice (some ⟨g0,0,none⟩) n cap) n ys∧Hid (KeptG 3 R p fs cs ii jj ys)∧Below w0.heap.size w0 wr) (fun _ j _=>n-(intOf j).toNat);case atStart=>exact⟨k0,k0+1,cs,rfl,by go_num,HO1.out,HS.out,HB1.out⟩
   case round =>
    obtain⟨i,j,ys,rfl,rfl,ho,hK,hb⟩:=hrel;have HO:=zh ho;have HB:=zh hb;have hij:=hK.out.lt;have hjn:j≤n:=by have:=hK.out.le;rw[Hlen.out]at this;exact this
    have hyl:ys.length=n*3:=ho.1;clear ho hb;by_cases hlt:j<n
    · have hl:j<fs.length:=by rw[Hlen.out];exact hlt
      obtain⟨c,_,hRd,hq⟩:=CellsG.at j HC.out hl;obtain⟨c0,c1,c2,rfl,hd⟩:=hR _ _ hRd;have q0:cs[j*3]?=some c0:=hq 0 (by omega);have q1:cs[j*3+1]?=some c1:=hq 1 (by omega);have q2:cs[j*3+2]?=some c2:=hq 2 (by omega);clear hq;have x0:=Own.own_cell HO.out (j*3) c0 (by omega) ((hK.out.cell 0).trans q0);have x1:=Own.own_cell HO.out (j*3+1) c1 (by omega) ((hK.out.cell 1).trans q1);have x2:=Own.own_cell HO.out (j*3+2) c2 (by omega) ((hK.out.cell 2).trans q2);have HP:=zh (fun o=>Hg.out (fs.getD j default) (uB fs j hl) c0 c1 c2 (wr.alloc o) (HB.out.later (Below.new _ _)) (hd.later (HB.out.later (Below.new _ _))));have HKeep:=zh (fun hp=>hK.out.keep (by rw[Hlen.out];exact HL.out) hl hp hRd rfl);clear hRd;have HSkip:=zh (fun hp=>hK.out.skip hl hp);clear q0 q1 q2 hl;generalize fs.getD j default=d at *;generalize hx:p d=x at *;clear hx;obtain⟨rfl,⟨A1,n1,p1,rfl,_,_⟩,rfl⟩:=hd;generalize d.name=nm at *;generalize d.val=vl at *;go_wp2_with fail;refine(HP.out _).mono ?_;rintro e w2 ⟨rfl,hb2⟩;have b0:=zFx hb2 0;have b1:=zFx hb2 1;have b2:=zFx hb2 2;simp at b0 b1 b2;have hO2:=Own.own_later (Own.own_later HO.out (Below.new wr _)) hb2;have HB2:=zh (HB.out.later ((Below.new wr _).later hb2));have HO2:=zh hO2;clear x0 x1 x2;cases x
      · obtain⟨cur,hblk⟩:=Own.own_blk hO2;have t0:=Own.own_cell hO2 (i*3) _ (by omega) (List.getElem?_eq_getElem (show i*3<ys.length by omega));have t1:=Own.own_cell hO2 (i*3+1) _ (by omega) (List.getElem?_eq_getElem (show i*3+1<ys.length by omega));have t2:=Own.own_cell hO2 (i*3+2) _ (by omega) (List.getElem?_eq_getElem (show i*3+2<ys.length by omega));have f0:=hblk.frozen (i*3);have f1:=hblk.frozen (i*3+1);have f2:=hblk.frozen (i*3+2);have s1:=hO2.stored (i*3) (.string nm);have s2:=s1.1.stored (i*3+1) (.slice A1 n1 p1);have s3:=s2.1.stored (i*3+2) (.string vl);have HO3:=zh s3.1;rw[zLZ ys i _ _ _ (by omega)]at HO3;have HB3:=zh (xN (xN (xN HB2.out hO2 (Nat.le_refl _) s1.2) s1.1 (Nat.le_refl _) s2.2) s2.1 (Nat.le_refl _) s3.2);have HK3:=zh (HKeep.out rfl);clear hb2 hblk s1 s2 s3 hO2;generalize ys[i*3]=o0 at *;generalize ys[i*3+1]=o1 at *;generalize ys[i*3+2]=o2 at *;have hin:i<n:=by omega
        go_wp2_with fail;go_roundw;case rel=>exact⟨i+1,j+1,_,by go_num,by go_num,HO3.out,HK3.out,HB3.out⟩
        case measure=>simp[intOf];omega
      · have HK3:=zh (HSkip.out rfl);clear hb2 hO2;go_wp2_with fail;go_roundw;case rel=>exact⟨i,j+1,ys,rfl,by go_num,HO2.out,HK3.out,HB2.out⟩
        case measure=>simp[intOf];omega
    · obtain rfl:j=n:=by omega
      have hin:i<j:=hij;obtain⟨w2,hcl,ho2,hg2⟩:=zCv (P:=Tryz.prog) (i:=i) HO.out 24 Tryz.underlying24 _ zLQ rfl (fun u hu=>by have:=zBK hu;simp[Value.cells]at this;rcases this with rfl | rfl | rfl <;> rfl) hin (cap-i);have HO2:=zh ho2;have HB2:=zh (xN HB.out HO.out (Nat.le_refl _) hg2);have HE:Hid ((fs.filter fun d=>!p d).length=i∧CellsG 3 R (fs.filter fun d=>!p d) (ys.take (i*3))):=by have hk:=hK.out;have hl:=Hlen.out;subst hl;exact hk.done
      have hcn:¬cap=i:=by omega
      clear ho2 hg2;go_wp2_with (simp only[hcl]);go_ret;exact⟨_,_,rfl,by rw[HE.out.1];exact HO2.out,HE.out.2,HB2.out⟩
end Go.Proofs.YtfpcjhajjejpdaaGreatDoor
