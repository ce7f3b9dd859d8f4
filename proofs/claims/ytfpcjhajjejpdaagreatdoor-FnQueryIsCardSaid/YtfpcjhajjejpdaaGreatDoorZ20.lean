import Derived.Test.YtfpcjhajjejpdaaGreatDoorZ18
import Derived.Test.YtfpcjhajjejpdaaGreatDoorZ19
namespace Go.Proofs.YtfpcjhajjejpdaaGreatDoor.Stab
section
variable {α:Type}
def seg (d:Nat→α) (a b:Nat):List α:=(List.range' a (b-a)).map d
theorem zIN (d:Nat→α) (a b:Nat):(seg d a b).length=b-a:=by simp[seg]
theorem seg_nil (d:Nat→α) {a b:Nat} (h:b≤a):seg d a b=[]:=by
 unfold seg;rw[Nat.sub_eq_zero_of_le h];rfl
theorem seg_cons (d:Nat→α) {a b:Nat} (h:a<b):seg d a b=d a::seg d (a+1) b:=by
 unfold seg;rw[show b-a=(b-(a+1))+1 by omega,List.range'_succ];rfl
theorem seg_at (d:Nat→α) (a b i:Nat):(seg d a b)[i]?=if i<b-a then some (d (a+i)) else none:=by
 unfold seg;by_cases h:i<b-a
 · rw[if_pos h,List.getElem?_map,List.getElem?_range' h];simp
 · rw[if_neg h,List.getElem?_eq_none (by simp;omega)]
theorem seg_split (d:Nat→α) {a m b:Nat} (h1:a≤m) (h2:m≤b):seg d a b=seg d a m++seg d m b:=by
 apply List.ext_getElem?;intro i;rw[List.getElem?_append,seg_at,seg_at,seg_at,zIN];by_cases h:i<m-a
 · rw[if_pos h,if_pos (by omega),if_pos h]
 · rw[if_neg h];by_cases h3:i<b-a
   · rw[if_pos h3,if_pos (by omega)];congr 2;omega
   · rw[if_neg h3,if_neg (by omega)]
theorem seg_snoc (d:Nat→α) {a b:Nat} (h:a≤b):seg d a (b+1)=seg d a b++[d b]:=by
 rw[seg_split d h (Nat.le_succ b),seg_cons d (Nat.lt_succ_self b),seg_nil d (Nat.le_refl _)]
theorem zBa {d d':Nat→α} {a a' b b':Nat} (hl:b-a=b'-a') (h:∀t,t<b-a→d (a+t)=d' (a'+t)):seg d a b=seg d' a' b':=by
 apply List.ext_getElem?;intro i;rw[seg_at,seg_at,hl];by_cases h3:i<b'-a'
 · rw[if_pos h3,if_pos h3,h i (by omega)]
 · rw[if_neg h3,if_neg h3]
theorem seg_congr {d d':Nat→α} {a b:Nat} (h:∀t,a≤t→t<b→d t=d' t):seg d a b=seg d' a b:=zBa rfl fun t ht=>h _ (by omega) (by omega)
theorem mem_seg {d:Nat→α} {a b:Nat} {x:α}:x∈seg d a b↔∃t,a≤t∧t<b∧d t=x:=by
 unfold seg;rw[List.mem_map];constructor
 · rintro⟨t,ht,rfl⟩;rw[List.mem_range'_1]at ht;exact⟨t,by omega,by omega,rfl⟩
 · rintro⟨t,h1,h2,rfl⟩;exact⟨t,by rw[List.mem_range'_1];omega,rfl⟩
theorem seg_set (d:Nat→α) {a b i:Nat} (x:α) (h:a+i<b):(seg d a b).set i x=seg (fun t=>if t=a+i then x else d t) a b:=by
 apply List.ext_getElem?;intro j;rw[List.getElem?_set,seg_at,seg_at,zIN];by_cases e:i=j
 · subst e;rw[if_pos rfl,if_pos (by omega),if_pos (by omega),if_pos rfl]
 · rw[if_neg e];by_cases h3:j<b-a
   · rw[if_pos h3,if_pos h3,if_neg (by omega)]
   · rw[if_neg h3,if_neg h3]
theorem zAY {lt:α→α→Bool} {d:Nat→α} {a b:Nat} (h:Srt lt (seg d a b)) {i j:Nat} (hi:a≤i) (hij:i<j) (hj:j<b):lt (d j) (d i)=false:=by
 unfold Srt at h;rw[seg_split d (show a≤j by omega) (by omega),List.pairwise_append]at h;exact h.2.2 (d i) (mem_seg.2 ⟨i,hi,hij,rfl⟩) (d j) (mem_seg.2 ⟨j,Nat.le_refl _,hj,rfl⟩)
theorem zDA {lt:α→α→Bool} {d:Nat→α} {a b a' b':Nat} (h:Srt lt (seg d a b)) (h1:a≤a') (h2:b'≤b):Srt lt (seg d a' b'):=by
 rcases Nat.lt_or_ge a' b' with h3 | h3
 · unfold Srt at *;rw[seg_split d h1 (show a'≤b by omega),List.pairwise_append]at h;have h4:=h.2.1;rw[seg_split d (show a'≤b' by omega) h2,List.pairwise_append]at h4;exact h4.1
 · rw[seg_nil d h3];exact List.Pairwise.nil
def swp (d:Nat→α) (i j:Nat):Nat→α:=fun t=>if t=i then d j else if t=j then d i else d t
def Same (d d':Nat→α) (a b:Nat):Prop:=∀t,¬(a≤t∧t<b)→d' t=d t
def mv (d:Nat→α) (i j:Nat):Nat→α:=fun t=>if t=j then d i else if j<t∧t≤i then d (t-1) else d t
theorem mv_self (d:Nat→α) (i:Nat):mv d i i=d:=by
 funext t
 unfold mv;by_cases h:t=i
 · rw[if_pos h,h]
 · rw[if_neg h,if_neg (by omega)]
theorem mv_step (d:Nat→α) {i j:Nat} (h:0<j) (hj:j≤i):swp (mv d i j) j (j-1)=mv d i (j-1):=by
 funext t
 unfold swp mv;by_cases h1:t=j
 · subst h1;rw[if_pos rfl,if_neg (by omega),if_neg (by omega),if_neg (by omega),if_pos (by omega)]
 · rw[if_neg h1];by_cases h2:t=j-1
   · subst h2;rw[if_pos rfl,if_pos rfl,if_pos rfl]
   · rw[if_neg h2,if_neg h1,if_neg h2];by_cases h3:j<t∧t≤i
     · rw[if_pos h3,if_pos (by omega)]
     · rw[if_neg h3,if_neg (by omega)]
theorem mv_same (d:Nat→α) {a b i j:Nat} (ha:a≤j) (hji:j≤i) (hb:i<b):Same d (mv d i j) a b:=by
 intro t ht;unfold mv;rw[if_neg (by omega),if_neg (by omega)]
theorem zLO (d:Nat→α) {a i j:Nat} (ha:a≤j) (hji:j≤i):seg (mv d i j) a (i+1)=seg d a j++d i::seg d j i:=by
 rw[seg_split (mv d i j) ha (show j≤i+1 by omega),seg_cons (mv d i j) (show j<i+1 by omega)]
 congr 1
 · exact seg_congr fun t h1 h2=>by unfold mv;rw[if_neg (by omega),if_neg (by omega)]
 · congr 1
   · unfold mv;rw[if_pos rfl]
   · exact zBa (by omega) fun t ht=>by
      unfold mv;rw[if_neg (by omega),if_pos (by omega)]
      congr 1
      omega
def mvu (d:Nat→α) (i j:Nat):Nat→α:=fun t=>if t=j then d i else if i≤t∧t<j then d (t+1) else d t
theorem mvu_self (d:Nat→α) (i:Nat):mvu d i i=d:=by
 funext t
 unfold mvu;by_cases h:t=i
 · rw[if_pos h,h]
 · rw[if_neg h,if_neg (by omega)]
theorem mvu_step (d:Nat→α) {i j:Nat} (hj:i≤j):swp (mvu d i j) j (j+1)=mvu d i (j+1):=by
 funext t
 unfold swp mvu;by_cases h1:t=j
 · subst h1;rw[if_pos rfl,if_neg (by omega),if_neg (by omega),if_neg (by omega),if_pos (by omega)]
 · rw[if_neg h1];by_cases h2:t=j+1
   · subst h2;rw[if_pos rfl,if_pos rfl,if_pos rfl]
   · rw[if_neg h2,if_neg h1,if_neg h2];by_cases h3:i≤t∧t<j
     · rw[if_pos h3,if_pos (by omega)]
     · rw[if_neg h3,if_neg (by omega)]
theorem mvu_same (d:Nat→α) {a b i j:Nat} (ha:a≤i) (hji:i≤j) (hb:j<b):Same d (mvu d i j) a b:=by
 intro t ht;unfold mvu;rw[if_neg (by omega),if_neg (by omega)]
theorem zLf (d:Nat→α) {i j b:Nat} (hij:i≤j) (hb:j<b):seg (mvu d i j) i b=seg d (i+1) (j+1)++d i::seg d (j+1) b:=by
 rw[seg_split (mvu d i j) hij (show j≤b by omega),seg_cons (mvu d i j) hb]
 congr 1
 · exact zBa (by omega) fun t ht=>by
    unfold mvu;rw[if_neg (by omega),if_pos (by omega)]
    congr 1
    omega
 · congr 1
   · unfold mvu;rw[if_pos rfl]
   · exact seg_congr fun t h1 h2=>by unfold mvu;rw[if_neg (by omega),if_neg (by omega)]
def rot (d:Nat→α) (a m b:Nat):Nat→α:=fun t=>if a≤t∧t<b then (if t<a+(b-m) then d (t-a+m) else d (t-(b-m))) else d t
def swr (d:Nat→α) (a b i:Nat):Nat→α:=fun t=>if a≤t∧t<a+i then d (t-a+b) else if b≤t∧t<b+i then d (t-b+a) else d t
theorem swr_zero (d:Nat→α) (a b:Nat):swr d a b 0=d:=by
 funext t
 unfold swr;rw[if_neg (by omega),if_neg (by omega)]
theorem swr_step (d:Nat→α) {a b i n:Nat} (h:a+n≤b) (hi:i<n):swp (swr d a b i) (a+i) (b+i)=swr d a b (i+1):=by
 funext t
 unfold swp swr;by_cases h1:t=a+i
 · subst h1;rw[if_pos rfl,if_neg (by omega),if_neg (by omega),if_pos (by omega)]
   congr 1;omega
 · rw[if_neg h1];by_cases h2:t=b+i
   · subst h2;rw[if_pos rfl,if_neg (by omega),if_neg (by omega),if_neg (by omega),if_pos (by omega)]
     congr 1;omega
   · rw[if_neg h2];by_cases h3:a≤t∧t<a+i
     · rw[if_pos h3,if_pos (by omega)]
     · rw[if_neg h3,if_neg (show ¬(a≤t∧t<a+(i+1)) by omega)];by_cases h4:b≤t∧t<b+i
       · rw[if_pos h4,if_pos (by omega)]
       · rw[if_neg h4,if_neg (by omega)]
theorem rot_more (d:Nat→α) {m i j:Nat} (h:j<i) (him:i≤m):rot (swr d (m-i) m j) (m-(i-j)) m (m+j)=rot d (m-i) m (m+j):=by
 funext t
 unfold rot swr;rw[show m+j-m=j by omega];by_cases h1:m-(i-j)≤t∧t<m+j
 · rw[if_pos h1,if_pos (show m-i≤t∧t<m+j by omega)];by_cases h2:t<m-(i-j)+j
   · rw[if_pos h2];by_cases h3:t<m-i+j
     · omega
     · rw[if_neg h3,if_neg (by omega),if_pos (by omega)]
       congr 1;omega
   · rw[if_neg h2,if_neg (by omega),if_neg (by omega),if_neg (by omega)]
 · rw[if_neg h1];by_cases h4:m-i≤t∧t<m+j
   · rw[if_pos h4,if_pos (by omega),if_pos (by omega)]
   · rw[if_neg h4,if_neg (by omega),if_neg (by omega)]
theorem rot_less (d:Nat→α) {m i j:Nat} (h:i<j) (him:i≤m):rot (swr d (m-i) (m+j-i) i) (m-i) m (m+(j-i))=rot d (m-i) m (m+j):=by
 funext t
 unfold rot swr;rw[show m+(j-i)-m=j-i by omega,show m+j-m=j by omega];by_cases h1:m-i≤t∧t<m+(j-i)
 · rw[if_pos h1,if_pos (show m-i≤t∧t<m+j by omega)];by_cases h2:t<m-i+(j-i)
   · rw[if_pos h2,if_neg (by omega),if_neg (by omega),if_pos (by omega)]
   · rw[if_neg h2,if_pos (by omega),if_pos (by omega)]
     congr 1;omega
 · rw[if_neg h1];by_cases h4:m-i≤t∧t<m+j
   · rw[if_pos h4,if_neg (by omega),if_pos (by omega)];by_cases h5:t<m-i+j
     · omega
     · rw[if_neg h5]
       congr 1;omega
   · rw[if_neg h4,if_neg (by omega),if_neg (by omega)]
theorem rot_same (d:Nat→α) {m i:Nat} (him:i≤m):swr d (m-i) m i=rot d (m-i) m (m+i):=by
 funext t
 unfold rot swr;rw[show m+i-m=i by omega];by_cases h1:m-i≤t∧t<m-i+i
 · rw[if_pos h1,if_pos (by omega),if_pos (by omega)]
 · rw[if_neg h1];by_cases h2:m≤t∧t<m+i
   · rw[if_pos h2,if_pos (by omega),if_neg (by omega)]
     congr 1;omega
   · rw[if_neg h2,if_neg (by omega)]
theorem zIQ (d:Nat→α) {a m b a' b':Nat} (h1:a'≤a) (h2:b≤b'):Same d (rot d a m b) a' b':=by
 intro t ht;unfold rot;rw[if_neg (by omega)]
theorem zLb (d:Nat→α) {a m b:Nat} (h1:a≤m) (h2:m≤b):seg (rot d a m b) a (a+(b-m))=seg d m b:=by
 apply zBa (by omega);intro t ht;unfold rot;rw[if_pos (by omega),if_pos (by omega)]
 congr 1;omega
theorem zLa (d:Nat→α) {a m b:Nat} (h1:a≤m) (h2:m≤b):seg (rot d a m b) (a+(b-m)) b=seg d a m:=by
 apply zBa (by omega);intro t ht;unfold rot;rw[if_pos (by omega),if_neg (by omega)]
 congr 1;omega
theorem Same.refl (d:Nat→α) (a b:Nat):Same d d a b:=fun _ _=>rfl
theorem Same.trans {d d1 d2:Nat→α} {a b:Nat} (h:Same d d1 a b) (h':Same d1 d2 a b):Same d d2 a b:=fun t ht=>(h' t ht).trans (h t ht)
theorem Same.wide {d d1:Nat→α} {a b a' b':Nat} (h:Same d d1 a b) (h1:a'≤a) (h2:b≤b'):Same d d1 a' b':=fun t ht=>h t (by omega)
theorem sym_cut {lt:α→α→Bool} (hw:Weak lt) {d:Nat→α} {a m b mid start stop lo hi:Nat} (hX:Srt lt (seg d a m)) (hY:Srt lt (seg d m b)) (hmid:mid=(a+b) / 2)
 (hstop:start+stop=mid+m) (hlo:lo≤start) (hhi:start≤hi) (hl:lo=if m>mid then mid+m-b else a) (hh:hi=if m>mid then mid else m)
 (h1:start=lo∨lt (d (mid+m-1-(start-1))) (d (start-1))=false) (h2:start=hi∨lt (d (mid+m-1-start)) (d start)=true) :
 a≤start∧start≤m∧m≤stop∧stop≤b∧start≤mid∧mid≤stop∧mrg lt (seg d a m) (seg d m b)=mrg lt (seg d a start) (seg d m stop)++mrg lt (seg d start m) (seg d stop b):=by
 have hb:a≤start∧start≤m∧m≤stop∧stop≤b∧start≤mid∧mid≤stop:=by split at hl <;> split at hh <;> omega
 obtain⟨q1,q2,q3,q4,q5,q6⟩:=hb;refine⟨q1,q2,q3,q4,q5,q6,?_⟩;rw[seg_split d q1 q2,seg_split d q3 q4];apply yP
 · intro y hy x hx;obtain⟨t,ht1,ht2,rfl⟩:=mem_seg.1 hy;obtain⟨s,hs1,hs2,rfl⟩:=mem_seg.1 hx
   have hb2:lt (d (stop-1)) (d start)=true:=by
    rcases h2 with h2 | h2
    · exfalso;split at hh <;> omega
    · rw[show mid+m-1-start=stop-1 by omega]at h2;exact h2
   have e1:lt (d (stop-1)) (d t)=false:=by
    rcases Nat.lt_or_ge t (stop-1) with h | h
    · exact zAY hY ht1 h (by omega)
    · rw[show stop-1=t by omega];exact hw.irr _
   have e2:lt (d s) (d start)=false:=by
    rcases Nat.lt_or_ge start s with h | h
    · exact zAY hX q1 h hs2
    · rw[show s=start by omega];exact hw.irr _
   cases e3:lt (d t) (d s)
   · have:=hw.neg _ _ _ (hw.neg _ _ _ e1 e3) e2;rw[hb2]at this;cases this
   · rfl
 · intro x hx y hy;obtain⟨t,ht1,ht2,rfl⟩:=mem_seg.1 hy;obtain⟨s,hs1,hs2,rfl⟩:=mem_seg.1 hx
   have hb2:lt (d stop) (d (start-1))=false:=by
    rcases h1 with h1 | h1
    · exfalso;split at hl <;> omega
    · rw[show mid+m-1-(start-1)=stop by omega]at h1;exact h1
   have e1:lt (d t) (d stop)=false:=by
    rcases Nat.lt_or_ge stop t with h | h
    · exact zAY hY q3 h ht2
    · rw[show t=stop by omega];exact hw.irr _
   have e2:lt (d (start-1)) (d s)=false:=by
    rcases Nat.lt_or_ge s (start-1) with h | h
    · exact zAY hX hs1 h (by omega)
    · rw[show start-1=s by omega];exact hw.irr _
   exact hw.neg _ _ _ (hw.neg _ _ _ e1 hb2) e2
theorem ins_cut {lt:α→α→Bool} (hw:Weak lt) {d:Nat→α} {a i j:Nat} (hX:Srt lt (seg d a i)) (ha:a≤j) (hji:j≤i) (h1:j=a∨lt (d i) (d (j-1))=false) (h2:j=i∨lt (d i) (d j)=true) :
 seg (mv d i j) a (i+1)=mrg lt (seg d a i) [d i]:=by
 rw[zLO d ha hji,seg_split d ha hji,zIb]
 · intro x hx;obtain⟨t,ht1,ht2,rfl⟩:=mem_seg.1 hx;rcases h1 with h1 | h1
   · omega
   · rcases Nat.lt_or_ge t (j-1) with h | h
     · exact hw.neg _ _ _ h1 (zAY hX ht1 h (by omega))
     · rw[show t=j-1 by omega];exact h1
 · intro x hx;obtain⟨t,ht1,ht2,rfl⟩:=mem_seg.1 hx;rcases h2 with h2 | h2
   · omega
   · cases e3:lt (d i) (d t)
     · rcases Nat.lt_or_ge j t with h | h
       · have:=hw.neg _ _ _ e3 (zAY hX ha h ht2);rw[h2]at this;cases this
       · rw[show t=j by omega,h2]at e3;cases e3
     · rfl
theorem insu_cut {lt:α→α→Bool} (hw:Weak lt) {d:Nat→α} {a b j:Nat} (hY:Srt lt (seg d (a+1) b)) (ha:a≤j) (hjb:j<b) (h1:j=a∨lt (d j) (d a)=true) (h2:j+1=b∨lt (d (j+1)) (d a)=false) :
 seg (mvu d a j) a b=mrg lt [d a] (seg d (a+1) b):=by
 rw[zLf d ha hjb,seg_split d (show a+1≤j+1 by omega) (show j+1≤b by omega),zHX]
 · intro x hx;obtain⟨t,ht1,ht2,rfl⟩:=mem_seg.1 hx;rcases h1 with h1 | h1
   · omega
   · cases e3:lt (d t) (d a)
     · rcases Nat.lt_or_ge t j with h | h
       · have:=hw.neg _ _ _ (zAY hY ht1 h hjb) e3;rw[h1]at this;cases this
       · rw[show t=j by omega,h1]at e3;cases e3
     · rfl
 · intro x hx;obtain⟨t,ht1,ht2,rfl⟩:=mem_seg.1 hx;rcases h2 with h2 | h2
   · omega
   · rcases Nat.lt_or_ge (j+1) t with h | h
     · exact hw.neg _ _ _ (zAY hY (by omega) h ht2) h2
     · rw[show t=j+1 by omega];exact h2
end
end Go.Proofs.YtfpcjhajjejpdaaGreatDoor.Stab
namespace Go.Proofs.YtfpcjhajjejpdaaGreatDoor
open Go.RowKit
set_option linter.unusedVariables false
abbrev uM:=Value × List ByteArray
def ltI (lt:List ByteArray→List ByteArray→Bool) (x y:uM):Bool:=lt x.2 y.2
theorem zBd {lt:List ByteArray→List ByteArray→Bool} (h:Stab.Weak lt):Stab.Weak (ltI lt):=⟨fun a=>h.irr _,fun a b c=>h.trans _ _ _,fun a b c=>h.neg _ _ _⟩
def SrtR (w:World) (base g n cap:Nat) (d:Nat→uM):Prop:=w.ownsRow base 40 1 (.slice (some ⟨g,0,none⟩) n cap) n ((Stab.seg d 0 n).map Prod.fst)
theorem SrtR.later {w w':World} {base g n cap:Nat} {d:Nat→uM} (h:SrtR w base g n cap d) (hb:Below w.heap.size w w'):SrtR w' base g n cap d:=Own.own_later h hb
theorem SrtR.at {w:World} {base g n cap:Nat} {d:Nat→uM} (h:SrtR w base g n cap d) {j:Nat} (hj:j<n):w.cell? ⟨g,j,none⟩=some (d j).1:=by
 refine Own.own_cell h j _ (by omega) ?_;rw[List.getElem?_map,Stab.seg_at,if_pos (by omega),Nat.zero_add];rfl
theorem SrtR.blk {w:World} {base g n cap:Nat} {d:Nat→uM} (h:SrtR w base g n cap d):∃cur,Blk w g 40 cur:=Own.own_blk h
theorem SrtR.frozen {w:World} {base g n cap:Nat} {d:Nat→uM} (h:SrtR w base g n cap d) (j:Nat):w.frozen? ⟨g,j,none⟩=false:=by
 obtain⟨cur,hc⟩:=h.blk;exact hc.frozen j
theorem SrtR.lt {w:World} {base g n cap:Nat} {d:Nat→uM} (h:SrtR w base g n cap d):base≤g∧g<w.heap.size:=World.ownsRow.lt h g rfl
theorem SrtR.set {w:World} {base g n cap:Nat} {d:Nat→uM} (h:SrtR w base g n cap d) {i:Nat} (hi:i<n) (x:uM):SrtR (w.setCell ⟨g,i,none⟩ x.1) base g n cap (fun t=>if t=i then x else d t)∧w.grownBy (w.setCell ⟨g,i,none⟩ x.1) (some g):=by
 obtain⟨h1,h2⟩:=World.ownsRow.stored h i x.1;refine⟨?_,h2⟩;unfold SrtR;have e:=Stab.seg_set d (a:=0) (b:=n) (i:=i) x (by omega);rw[Nat.zero_add]at e;rw[←e,List.map_set];exact h1
theorem SrtR.swap {w:World} {base g n cap:Nat} {d:Nat→uM} (h:SrtR w base g n cap d) {i j:Nat} (hi:i<n) (hj:j<n) :
 SrtR ((w.setCell ⟨g,i,none⟩ (d j).1).setCell ⟨g,j,none⟩ (d i).1) base g n cap (Stab.swp d i j)∧(∀w0,Below base w0 w→Below base w0 ((w.setCell ⟨g,i,none⟩ (d j).1).setCell ⟨g,j,none⟩ (d i).1)):=by
 have h1:=h.set hi (d j);have h2:=h1.1.set hj (d i);refine⟨?_,fun w0 hb=>(hb.setCell (p:=⟨g,i,none⟩) h.lt.1 _).setCell (p:=⟨g,j,none⟩) h.lt.1 _⟩
 have e:(fun t=>if t=j then d i else (fun t=>if t=i then d j else d t) t)=Stab.swp d i j:=by
  funext t
  unfold Stab.swp;by_cases e1:t=j
  · subst e1;by_cases e2:t=i
    · subst e2;simp
    · simp[e2]
  · simp[e1]
 rw[←e];exact h2.1
def GoodR (w0:World) (P:List ByteArray→Prop) (n:Nat) (d:Nat→uM):Prop:=∀t,t<n→P (d t).2∧RowR w0 w0.heap.size (d t).1 (d t).2
theorem GoodR.swp {w0:World} {P:List ByteArray→Prop} {n:Nat} {d:Nat→uM} (h:GoodR w0 P n d) {i j:Nat} (hi:i<n) (hj:j<n):GoodR w0 P n (Stab.swp d i j):=by
 intro t ht;unfold Stab.swp;split
 · exact h j hj
 · split
   · exact h i hi
   · exact h t ht
def CmpOk (f:Nat) (caps:Array Value) (cmp:List ByteArray→List ByteArray→Int) (P:List ByteArray→Prop) (w0:World):Prop :=
 ∀x y x0 y0 W,Below w0.heap.size w0 W→P x→P y→RowR W W.heap.size x0 x→RowR W W.heap.size y0 y→Calls Tryz.prog f (#[.agg #[x0],.agg #[y0]]++caps) W fun e w'=>e=.returned (.int .i64 (cmp x y))∧Below W.heap.size W w'
theorem CmpOk.at {f:Nat} {caps:Array Value} {cmp:List ByteArray→List ByteArray→Int} {P:List ByteArray→Prop} {w0 W:World} {n:Nat} {d:Nat→uM} (h:CmpOk f caps cmp P w0) (hg:GoodR w0 P n d) (hb:Below w0.heap.size w0 W) {i j:Nat} (hi:i<n) (hj:j<n) :
 Calls Tryz.prog f (#[.agg #[(d i).1],.agg #[(d j).1]]++caps) W fun e w'=>e=.returned (.int .i64 (cmp (d i).2 (d j).2))∧Below W.heap.size W w' :=
 h _ _ _ _ W hb (hg i hi).1 (hg j hj).1 ((hg i hi).2.later hb) ((hg j hj).2.later hb)
theorem GoodR.val {w0:World} {P:List ByteArray→Prop} {n:Nat} {d:Nat→uM} (h:GoodR w0 P n d) {t:Nat} (ht:t<n):∃A m c,(d t).1=.slice A m c:=by
 obtain⟨A,m,c,e,_,_⟩:=(h t ht).2;exact⟨A,m,c,e⟩
structure SrtSt (w0:World) (P:List ByteArray→Prop) (g n cap:Nat) (w:World) (d:Nat→uM):Prop where
 row:SrtR w w0.heap.size g n cap d
 good:GoodR w0 P n d
 below:Below w0.heap.size w0 w
theorem SrtSt.later {w0 w w':World} {P:List ByteArray→Prop} {g n cap:Nat} {d:Nat→uM} (h:SrtSt w0 P g n cap w d) (hb:Below w.heap.size w w'):SrtSt w0 P g n cap w' d:=⟨h.row.later hb,h.good,h.below.later hb⟩
theorem SrtSt.swap {w0 w:World} {P:List ByteArray→Prop} {g n cap:Nat} {d:Nat→uM} (h:SrtSt w0 P g n cap w d) {i j:Nat} (hi:i<n) (hj:j<n):SrtSt w0 P g n cap ((w.setCell ⟨g,i,none⟩ (d j).1).setCell ⟨g,j,none⟩ (d i).1) (Stab.swp d i j) :=
 ⟨(h.row.swap hi hj).1,h.good.swp hi hj,(h.row.swap hi hj).2 w0 h.below⟩
end Go.Proofs.YtfpcjhajjejpdaaGreatDoor
