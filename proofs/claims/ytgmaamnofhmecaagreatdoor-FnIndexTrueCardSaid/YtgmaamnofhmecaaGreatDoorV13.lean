import Derived.Test.YtgmaamnofhmecaaGreatDoorV11
import Derived.Test.YtgmaamnofhmecaaGreatDoorV12
import Derived.Test.YtgmaamnofhmecaaGreatDoorV01
import Derived.Test.YtgmaamnofhmecaaGreatDoorV10
import Derived.Lib.TrimUEq
import Derived.Shelf.GgClosure.StringsIndexFuncTop
import Derived.Lib.IndexAny
import Derived.Laws.CopyOwn
import Derived.Laws.CopyRow
import Derived.Lib.SliceRun
set_option maxHeartbeats 2000000
open Go.Lib renaming hid → zh
namespace Go.Proofs.YtgmaamnofhmecaaGreatDoor
open Go.RowKit
theorem zFq:∀(l:List ByteArray) (x:ByteArray) (k:Nat),Lib.idxFromS l x k=uR (fun y=>decide (y=x)) l k
 | [],_,_=>rfl
 | s::r,x,k=>by
   have:=zFq r x (k+1);by_cases e:s=x
   · simp[Lib.idxFromS,uR,e]
   · simp[Lib.idxFromS,uR,e,this]
theorem zGE (l:List ByteArray) (x:ByteArray):Lib.idxOfS l x=wA l x:=zFq l x 0
theorem zET (A:Option Addr) (n c:Nat) (ss:List ByteArray) (x:ByteArray) (w:World) (h:Strs w w.heap.size A n ss) (hn:n≤1048576) :
 Calls Tryz.prog 131 #[.slice A n c,.string x] w fun e w'=>e=.returned (.int .i64 (wA ss x))∧w=w':=by
 rcases Nat.eq_zero_or_pos n with h0 | h0
 · subst h0;obtain rfl:ss=[]:=List.eq_nil_of_length_eq_zero h.1;exact(Tryz.slices_Index_string_empty A c x w).mono fun e w' ⟨he,hw⟩=>⟨by rw[he,zGE],hw.symm⟩
 · obtain⟨b,o,rfl,hb,hc⟩:=h.2 h0;have hl:=h.1;refine(Tryz.slices_Index_string b o n c ss x w (by omega) (by omega) (fun j hj=>hc j (by omega))).mono fun e w' ⟨he,hw⟩=>⟨?_,hw.symm⟩;rw[he,List.take_of_length_le (by omega),zGE]
def zEO (r:Nat):Bool:=decide (r<32)||(decide (126<r)||decide (r=94))
theorem zHv (r:Nat) (w:World) :
 Calls Tryz.prog 244 #[.int .i32 r] w fun e w'=>e=.returned (.bool (zEO r))∧w=w':=by
 have HR:Hid (zEO r=(decide (r<32)||(decide (126<r)||decide (r=94)))):=rfl;generalize zEO r=R at *;by_cases h1:r<32
 · have HE:Hid (R=true):=by unfold Hid;rw[HR.out,decide_eq_true h1];rfl
   go_enter Tryz.func244,Tryz.ntmps244;go_wp2_with fail;go_ret;exact⟨zA0 HE.out.symm,rfl⟩
 · by_cases h2:126<r
   · have HE:Hid (R=true):=by unfold Hid;rw[HR.out,decide_eq_true h2];simp
     go_enter Tryz.func244,Tryz.ntmps244;go_wp2_with fail;go_ret;exact⟨zA0 HE.out.symm,rfl⟩
   · by_cases h3:r=94
     · have HE:Hid (R=true):=by unfold Hid;rw[HR.out,decide_eq_true h3];simp
       subst h3;go_enter Tryz.func244,Tryz.ntmps244;go_wp2_with fail;go_ret;exact⟨zA0 HE.out.symm,rfl⟩
     · have HE:Hid (R=false):=by unfold Hid;rw[HR.out,decide_eq_false h1,decide_eq_false h2,decide_eq_false h3];rfl
       have hb:((r:Int)==94)=false:=by rw[beq_eq_false_iff_ne];omega
       have hb2:(r==94)=false:=by rw[beq_eq_false_iff_ne];omega
       clear h3;go_enter Tryz.func244,Tryz.ntmps244;go_wp2_with fail;go_ret;exact⟨zA0 (by rw[HE.out];first | rfl | (simp;done) | (simp;omega)),rfl⟩
theorem zHk (n b0 b1 b2 b3:Nat) (h:128≤b0):126<(Lib.decodeN n b0 b1 b2 b3).1:=by
 unfold Lib.decodeN
 repeat' split
 all_goals (first | omega | (simp_all;omega) | (simp_all))
theorem zJT (c:UInt8):zEO c.toNat=!yX c:=by
 unfold zEO yX;by_cases h1:c.toNat<32
 · rw[decide_eq_true h1,decide_eq_false (show ¬32≤c.toNat by omega)];rfl
 · by_cases h2:126<c.toNat
   · rw[decide_eq_true h2,decide_eq_false (show ¬c.toNat≤126 by omega)];simp
   · by_cases h3:c.toNat=94
     · rw[decide_eq_true h3,decide_eq_false (show ¬c.toNat≠94 from fun h=>h h3)];simp
     · rw[decide_eq_false h1,decide_eq_false h2,decide_eq_false h3,decide_eq_true (show 32≤c.toNat by omega),decide_eq_true (show c.toNat≤126 by omega),decide_eq_true (show c.toNat≠94 from h3)];rfl
theorem zHd (s:ByteArray):∀(f pos:Nat),s.size-pos≤f→decide (0≤Lib.idxFuncFrom zEO true s f pos)=!((s.data.toList.drop pos).all yX)
 | 0,pos,h=>by
   rw[List.drop_of_length_le (by
    have:s.data.toList.length=s.size:=Array.length_toList
    omega)]
   rfl
 | f+1,pos,h=>by
   unfold Lib.idxFuncFrom;by_cases hp:pos<s.size
   · rw[if_pos hp];have hd:=uL s pos hp;rw[hd,List.all_cons]
     have hg:(s.data.toList.getD pos 0).toNat=s[pos].toNat:=by
      have hl:pos<s.data.toList.length:=by rw[Array.length_toList];exact hp
      rw[List.getD_eq_getElem?_getD,List.getElem?_eq_getElem hl];rfl
     by_cases ha:s[pos].toNat<128
     · have hdec:Utf8.decode s pos=(s[pos].toNat,1):=by rw[Lib.decode_N,hg,Lib.decodeN_ascii _ _ _ _ _ ha]
       rw[hdec];simp only[];rw[zJT];cases hc:yX s[pos]
       · simp
       · simp only[Bool.not_true,Bool.false_eq_true,if_false];rw[zHd s f (pos+1) (by omega)];simp
     · have hdec:126<(Utf8.decode s pos).1:=by rw[Lib.decode_N,hg];exact zHk _ _ _ _ _ (by omega)
       have hb:zEO (Utf8.decode s pos).1=true:=by unfold zEO;rw[decide_eq_true hdec];simp
       have hc:yX s[pos]=false:=by unfold yX;rw[decide_eq_false (show ¬s[pos].toNat≤126 by omega)];simp
       rw[hb,if_pos rfl,hc];simp
   · rw[if_neg hp,List.drop_of_length_le (by
      have:s.data.toList.length=s.size:=Array.length_toList
      omega)]
     rfl
theorem zIu (s:ByteArray) (w:World) (hs:s.size≤1048576) :
 Calls Tryz.prog 198 #[.string s] w fun e w'=>e=.returned (.bool (yJ s))∧Below w.heap.size w w':=by
 have hp:PredAt Tryz.prog 244 #[] encR zEO w:=fun W x _=>(zHv x W).mono fun e w' ⟨he,hw⟩=>by subst hw;exact⟨he,0,rfl⟩
 have HK:=zh (Tryz.strings_ContainsFunc 244 #[] (enters_of Tryz.func244 (by kernel_rfl) rfl) zEO s w hp);have HR:Hid (yJ s=(s.data.toList.all yX&&decide (s.size≤11))):=rfl;have HI:Hid (decide (0≤Lib.idxFunc zEO true s)=!(s.data.toList.all yX)):=zHd s s.size 0 (by omega);clear hp;rw[HI.out]at HK;generalize yJ s=R at *;generalize s.data.toList.all yX=x at *;by_cases h11:s.size≤11
 · have HE:Hid (R=x):=by unfold Hid;rw[HR.out,decide_eq_true h11,Bool.and_true]
   go_enter Tryz.func198,Tryz.ntmps198;go_wp2_with fail;refine HK.out.mono ?_;rintro e w1 ⟨rfl,hb1⟩;have HB:=zh hb1;clear hb1;cases x
   all_goals
    go_wp2_with fail;go_ret;exact⟨zA0 HE.out.symm,HB.out⟩
 · have HE:Hid (R=false):=by unfold Hid;rw[HR.out,decide_eq_false h11];simp
   go_enter Tryz.func198,Tryz.ntmps198;go_wp2_with fail;go_ret;exact⟨zA0 HE.out.symm,Below.refl _ _⟩
end Go.Proofs.YtgmaamnofhmecaaGreatDoor
namespace Go.Proofs.YtgmaamnofhmecaaGreatDoor
open Go.RowKit
theorem zGs (n a b:Int) (w:World) :
 Calls Tryz.prog 157 #[.int .i64 n,.int .i64 a,.int .i64 b] w fun e w'=>e=.returned (.bool (inB n a b))∧w=w':=zDW n a b w
def zES (g:Nat) (lb:Array Value) (p:NodeD→Bool) (fs:List NodeD) (w:World):Prop :=
 ∀d∈fs,∀c0 c1 c2 W,Below w.heap.size w W→NodeR W W.heap.size c0 c1 c2 d→Calls Tryz.prog g (#[.agg #[c0,c1,c2]]++lb) W fun e w'=>e=.returned (.bool (p d))∧Below W.heap.size W w'
theorem zCN (g:Nat) (lb:Array Value) (p:NodeD→Bool) (A:Option Addr) (n c:Nat) (fs:List NodeD) (w:World) (h:Nodes w w.heap.size A n fs) (hn:n≤1048576)
 (eg:∀args w,(callFunc g args).run Tryz.prog w=.ok (.enter g args) w) (hg:zES g lb p fs w) :
 Calls Tryz.prog 245 #[.slice A n c,.func (.func g) #[] lb] w fun e w'=>e=.returned (.int .i64 (wQ p fs 0))∧Below w.heap.size w w':=by
 have Hh:=zh h;have Hlen:=zh h.1;have Hg:=zh hg;clear h hg;go_enter Tryz.func245,Tryz.ntmps245;go_wp2_with fail;go_loopw [8] (fun i wr=>∃k:Nat,k≤n∧i=.int .i64 k∧Below w.heap.size w wr∧Hid (wQ p fs 0=wQ p (fs.drop k) k)) (fun i _=>n-(intOf i).toNat);case atStart=>exact⟨0,Nat.zero_le _,rfl,Below.refl _ _,rfl⟩
 case round =>
  obtain⟨k,hk,rfl,hb,hS⟩:=hrel;have HB:=zh hb;clear hb;by_cases hlt:k<n
  · obtain⟨b,o,rfl,hbB,hcell⟩:=(Hh.out.later HB.out).2 (by omega);obtain⟨c0,c1,c2,k0,k1,k2,hr⟩:=hcell k hlt;clear hcell;have hl:k<fs.length:=by rw[Hlen.out];exact hlt
    have HS:=zh (zDb p fs k hl);have HK:=zh (Hg.out (fs.getD k default) (xD fs k hl) c0 c1 c2 wr HB.out hr);clear hl hr;generalize fs.getD k default=s at *;generalize hx:p s=x at *;have HX:=zh hx;clear hx;go_wp2_with fail;refine HK.out.mono ?_;rintro e w' ⟨rfl,hb1⟩;have HB1:=zh (HB.out.later hb1);clear hb1;cases x
    · go_wp2_with fail;go_roundw;case rel=>exact⟨k+1,by omega,by go_num,HB1.out,by unfold Hid;rw[hS.out,HS.out];rfl⟩
      case measure=>simp[intOf];omega
    · go_wp2_with fail;go_ret;exact⟨yB (by rw[hS.out,HS.out];rfl),HB1.out⟩
  · have HE:Hid (wQ p fs 0=-1):=by unfold Hid;rw[hS.out,List.drop_of_length_le (by rw[Hlen.out];omega)];rfl
    go_wp2_with fail;go_ret;exact⟨yB HE.out.symm,HB.out⟩
theorem zGl (s:ByteArray) (w:World) (hs:s.size≤1048576) :
 Calls Tryz.prog 196 #[.string s] w fun e w'=>e=.returned (.bool (!xC s))∧w=w':=by
 have HK:=zh (zBb s w hs);generalize xC s=x at *;go_enter Tryz.func196,Tryz.ntmps196;go_wp2_with fail;refine HK.out.mono ?_;rintro e w1 ⟨rfl,rfl⟩;go_wp2_with fail;go_ret;exact⟨rfl,rfl⟩
theorem zIt (A:Option Addr) (n c:Nat) (w:World) (_hn:n≤1048576) :
 Calls Tryz.prog 193 #[.slice A n c] w fun e w'=>e=.returned (.int .i64 n)∧w=w':=by
 go_enter Tryz.func193,Tryz.ntmps193
 go_wp2
 go_ret;exact⟨rfl,rfl⟩
end Go.Proofs.YtgmaamnofhmecaaGreatDoor
namespace Go.Proofs.YtgmaamnofhmecaaGreatDoor
open Go.RowKit
theorem zKR (g o j:Nat):(⟨g,o,none⟩:Addr).add j=⟨g,o+j,none⟩:=by
 unfold Addr.add;split
 · rename_i h0;subst h0;rfl
 · rfl
def CellsG {α:Type} (sz:Nat) (R:List Value→α→Prop):List α→List Value→Prop
 | [],cs=>cs=[]
 | d::r,cs=>∃c cs',cs=c++cs'∧c.length=sz∧R c d∧CellsG sz R r cs'
section
variable {α:Type} {sz:Nat} {R R':List Value→α→Prop}
theorem CellsG.len:∀{fs:List α} {cs:List Value},CellsG sz R fs cs→cs.length=fs.length*sz
 | [],cs,h=>by have h:cs=[]:=h;subst h;simp
 | d::r,cs,h=>by obtain⟨c,cs',rfl,hl,_,hr⟩:=h;have:=hr.len;simp only[List.length_append,List.length_cons,this,hl,Nat.add_mul];omega
theorem CellsG.mono (hR:∀c d,R c d→R' c d):∀{fs:List α} {cs:List Value},CellsG sz R fs cs→CellsG sz R' fs cs
 | [],_,h=>h
 | _::_,_,h=>by obtain⟨c,cs',rfl,hl,hd,hr⟩:=h;exact⟨c,cs',rfl,hl,hR _ _ hd,CellsG.mono hR hr⟩
theorem CellsG.all {Q:Value→Prop} (hR:∀c d,R c d→∀u∈c,Q u):∀{fs:List α} {cs:List Value},CellsG sz R fs cs→∀u∈cs,Q u
 | [],cs,h,u,hu=>by have h:cs=[]:=h;subst h;simp at hu
 | _::_,_,h,u,hu=>by
   obtain⟨c,cs',rfl,hl,hd,hr⟩:=h;rw[List.mem_append]at hu;rcases hu with hu | hu
   · exact hR _ _ hd u hu
   · exact CellsG.all hR hr u hu
theorem CellsG.take:∀{fs:List α} {cs:List Value} (k:Nat),CellsG sz R fs cs→CellsG sz R (fs.take k) (cs.take (k*sz))
 | [],cs,k,h=>by have h:cs=[]:=h;subst h;simp[CellsG]
 | d::r,cs,0,h=>by simp[CellsG]
 | d::r,cs,k+1,h=>by obtain⟨c,cs',rfl,hl,hd,hr⟩:=h;refine⟨c,cs'.take (k*sz),?_,hl,hd,CellsG.take k hr⟩;rw[show(k+1)*sz=c.length+k*sz by rw[hl,Nat.add_mul];omega,List.take_length_add_append]
theorem CellsG.snoc {d:α} {c:List Value} (hd:R c d) (hl:c.length=sz):∀{fs:List α} {cs:List Value},CellsG sz R fs cs→CellsG sz R (fs++[d]) (cs++c)
 | [],cs,h=>by have h:cs=[]:=h;subst h;exact⟨c,[],by simp,hl,hd,rfl⟩
 | f::r,cs,h=>by obtain⟨c',cs',rfl,hl',hd',hr⟩:=h;exact⟨c',cs'++c,by simp,hl',hd',CellsG.snoc hd hl hr⟩
theorem CellsG.at [Inhabited α]:∀{fs:List α} {cs:List Value} (j:Nat),CellsG sz R fs cs→j<fs.length→∃c,c.length=sz∧R c (fs.getD j default)∧∀t,t<sz→cs[j*sz+t]?=c[t]?
 | [],_,j,_,hj=>by simp at hj
 | f::r,cs,0,h,_=>by obtain⟨c,cs',rfl,hl,hd,hr⟩:=h;refine⟨c,hl,by simpa using hd,fun t ht=>?_⟩;rw[Nat.zero_mul,Nat.zero_add,List.getElem?_append_left (by omega)]
 | f::r,cs,j+1,h,hj=>by obtain⟨c,cs',rfl,hl,hd,hr⟩:=h;obtain⟨c2,h1,h2,h3⟩:=CellsG.at j hr (by simpa using hj);refine⟨c2,h1,by simpa using h2,fun t ht=>?_⟩;rw[←h3 t ht,show(j+1)*sz+t=c.length+(j*sz+t) by rw[hl,Nat.add_mul];omega,List.getElem?_append_right (by omega),Nat.add_sub_cancel_left]
end
theorem zCJ {α:Type} [Inhabited α] {sz:Nat} {R:List Value→α→Prop} {w:World} (b:Nat):∀(fs:List α) (o:Nat),(∀j,j<fs.length→∃c,c.length=sz∧R c (fs.getD j default)∧∀t,t<sz→w.cell? ⟨b,o+j*sz+t,none⟩=c[t]?)→∃cs,CellsG sz R fs cs∧∀j u,cs[j]?=some u→w.cell? ⟨b,o+j,none⟩=some u
 | [],o,_=>⟨[],rfl,fun j u hu=>by simp at hu⟩
 | d::r,o,h=>by
   obtain⟨c,hl,hr,hx⟩:=h 0 (by simp)
   obtain⟨cs,hc,hy⟩:=zCJ b r (o+sz) (fun j hj=>by
    obtain⟨c,hl,hr,hx⟩:=h (j+1) (by simpa using hj);refine⟨c,hl,by simpa using hr,fun t ht=>?_⟩;rw[←hx t ht,Nat.add_mul,Nat.one_mul]
    congr 2
    omega)
   refine⟨c++cs,⟨c,cs,rfl,hl,by simpa using hr,hc⟩,fun j u hu=>?_⟩;by_cases hj:j<sz
   · rw[List.getElem?_append_left (by omega)]at hu;have:=hx j hj;rw[Nat.zero_mul,Nat.add_zero]at this;rw[this,hu]
   · rw[List.getElem?_append_right (by omega),hl]at hu;have:=hy (j-sz) u hu;rw[show o+sz+(j-sz)=o+j by omega]at this;exact this
theorem zEV {P:Program} {w:World} {base e size n g cap i:Nat} {xs:List Value} (h:w.ownsRow base e size (.slice (some ⟨g,0,none⟩) n cap) n xs) (t:TypeId) (ht:P.underlying t=some (.slice e)) (z:Value) (hz:∀w,(zeroValue e).run P w=.ok z w) (hzs:z.cells.size=size) (hz1:∀u∈(Builtin.zeroCells z.cells (n-i)).toList,u.oneCell'=true) (hin:i<n) (c:Nat) :
 ∃w',(∀ty,(Builtin.clear_ #[t] ty #[.slice (some ⟨g,i*size,none⟩) (n-i) c]).run P w=.ok (.tuple #[]) w')∧w'.ownsRow base e size (.slice (some ⟨g,0,none⟩) i cap) i (xs.take (i*size))∧w.grownBy w' (some g):=by
 obtain⟨hlen,hor⟩:=h;rcases hor with ⟨h0,_⟩ | ⟨g',cap',cur,he,hbase,hg,hnc,hcm,hcs,htk⟩
 · cases h0
 obtain⟨rfl,rfl⟩:g=g'∧cap=cap':=by simpa using he
 have hzl:(Builtin.zeroCells z.cells (n-i)).toList.length=(n-i)*size:=by simp[Builtin.zeroCells,hzs]
 have hmul:i*size+(n-i)*size=n*size:=by rw[←Nat.add_mul];congr 1;omega
 have hmc:n*size≤cap*size:=Nat.mul_le_mul_right _ hnc;have hst:=run_storeCells_at P g (i*size) e (Builtin.zeroCells z.cells (n-i)).toList 0 cur w hg (by rw[hzl,Nat.add_zero];omega) hz1;rw[Nat.add_zero,hzl]at hst;obtain⟨m,hm⟩:∃m,n-i=m+1:=⟨n-i-1,by omega⟩;refine⟨w.setRow g (cur.toList.take (i*size)++(Builtin.zeroCells z.cells (n-i)).toList++cur.toList.drop (i*size+(n-i)*size)).toArray,fun ty=>?_,⟨?_,.inr ⟨g,cap,_,rfl,hbase,setRow_heap _ _ _ _ _ _ hg,by omega,hcm,?_,?_⟩⟩,?_⟩
 · rw[hm]at hst ⊢;simp[Builtin.clear_,run_underlying ht,hz];simp at hst;rw[hst];rfl
 · rw[List.length_take,hlen];have:i*size≤n*size:=Nat.mul_le_mul_right _ (by omega);omega
 · simp only[List.size_toArray,List.length_append,List.length_take,List.length_drop,Array.length_toList,hzl,hcs];omega
 · rw[List.append_assoc,List.take_left' (by rw[List.length_take,Array.length_toList,hcs];omega),←htk,List.take_take]
   congr 1
   omega
 · exact⟨rfl,rfl,rfl,by simp,fun k _ hk=>setRow_other _ _ _ _ (fun e=>hk (by rw[e]))⟩
theorem zEw {α:Type} (p:α→Bool):∀(l:List α) (k:Nat),(wQ p l k=-1∧(l.filter fun d=>!p d)=l)∨∃m,m<l.length∧wQ p l k=((k+m:Nat):Int)∧((l.take (m+1)).filter fun d=>!p d)=l.take m
 | [],k=>.inl ⟨rfl,rfl⟩
 | d::r,k=>by
   by_cases h:p d=true
   · exact .inr ⟨0,by simp,by simp[wQ,h],by simp[h]⟩
   · rcases zEw p r (k+1) with ⟨e1,e2⟩ | ⟨m,hm,e1,e2⟩
     · exact .inl ⟨by simp[wQ,h,e1],by simp[h,e2]⟩
     · refine .inr ⟨m+1,by simpa using hm,?_,?_⟩
       · simp only[wQ,h,if_false,Bool.false_eq_true,e1]
         congr 1
         omega
       · simp[List.take_succ_cons,h,e2]
structure KeptG {α:Type} (sz:Nat) (R:List Value→α→Prop) (p:α→Bool) (fs:List α) (cs:List Value) (i j:Nat) (ys:List Value):Prop where
 len:ys.length=cs.length
 lt:i<j
 le:j≤fs.length
 cnt:((fs.take j).filter fun d=>!p d).length=i
 kept:CellsG sz R ((fs.take j).filter fun d=>!p d) (ys.take (i*sz))
 rest:ys.drop (j*sz)=cs.drop (j*sz)
section
variable {α:Type} {sz:Nat} {R:List Value→α→Prop} {p:α→Bool} {fs:List α} {cs ys:List Value} {i j:Nat}
theorem KeptG.start {k:Nat} (hc:CellsG sz R fs cs) (hk:k<fs.length) (hf:((fs.take (k+1)).filter fun d=>!p d)=fs.take k):KeptG sz R p fs cs k (k+1) cs :=
 ⟨rfl,by omega,by omega,by rw[hf,List.length_take];omega,by rw[hf];exact hc.take k,rfl⟩
theorem KeptG.cell (h:KeptG sz R p fs cs i j ys) (t:Nat):ys[j*sz+t]?=cs[j*sz+t]?:=by
 have:=congrArg (fun l:List Value=>l[t]?) h.rest;simpa [List.getElem?_drop] using this
theorem KeptG.skip [Inhabited α] (h:KeptG sz R p fs cs i j ys) (hj:j<fs.length) (hp:p (fs.getD j default)=true):KeptG sz R p fs cs i (j+1) ys:=by
 have hf:((fs.take (j+1)).filter fun d=>!p d)=(fs.take j).filter fun d=>!p d:=by rw[xW (fun d=>!p d) fs j hj,if_neg (by rw[hp];simp)]
 have hlt:=h.lt;refine⟨h.len,by omega,by omega,by rw[hf];exact h.cnt,by rw[hf];exact h.kept,?_⟩;have:=congrArg (fun l:List Value=>l.drop sz) h.rest;rw[Nat.add_mul,Nat.one_mul];simpa [List.drop_drop] using this
theorem KeptG.keep [Inhabited α] (h:KeptG sz R p fs cs i j ys) (hl:cs.length=fs.length*sz) (hj:j<fs.length) (hp:p (fs.getD j default)=false) {c:List Value} (hd:R c (fs.getD j default)) (hcl:c.length=sz) :
 KeptG sz R p fs cs (i+1) (j+1) (ys.take (i*sz)++c++ys.drop ((i+1)*sz)):=by
 have hf:((fs.take (j+1)).filter fun d=>!p d)=((fs.take j).filter fun d=>!p d)++[fs.getD j default]:=by rw[xW (fun d=>!p d) fs j hj,if_pos (by rw[hp];rfl)]
 have hlt:=h.lt;have hlen:=h.len;have e1:(i+1)*sz=i*sz+sz:=by rw[Nat.add_mul,Nat.one_mul]
 have e2:(i+1)*sz≤fs.length*sz:=Nat.mul_le_mul_right _ (by omega);have e3:(i+1)*sz≤j*sz:=Nat.mul_le_mul_right _ (by omega);have hA:(ys.take (i*sz)++c).length=(i+1)*sz:=by rw[List.length_append,List.length_take,hcl];omega
 refine⟨?_,by omega,by omega,by rw[hf,List.length_append,h.cnt];rfl,?_,?_⟩
 · rw[List.length_append,hA,List.length_drop];omega
 · rw[hf,List.take_left' hA];exact CellsG.snoc hd hcl h.kept
 · have h3:ys.drop ((j+1)*sz)=cs.drop ((j+1)*sz):=by have:=congrArg (fun l:List Value=>l.drop sz) h.rest;rw[Nat.add_mul,Nat.one_mul];simpa [List.drop_drop] using this
   have e4:(j+1)*sz=j*sz+sz:=by rw[Nat.add_mul,Nat.one_mul]
   rw[←h3,List.drop_append,hA,List.drop_of_length_le (by rw[hA];omega),List.nil_append,List.drop_drop]
   congr 1
   omega
theorem KeptG.done (h:KeptG sz R p fs cs i fs.length ys):(fs.filter fun d=>!p d).length=i∧CellsG sz R (fs.filter fun d=>!p d) (ys.take (i*sz)):=by
 have h1:=h.cnt;have h2:=h.kept;rw[List.take_of_length_le (Nat.le_refl _)]at h1 h2;exact⟨h1,h2⟩
end
theorem zKu (ys:List Value) (i:Nat) (c0 c1 c2:Value) (h:i*3+2<ys.length) :
 (((ys.set (i*3) c0).set (i*3+1) c1).set (i*3+2) c2)=ys.take (i*3)++[c0,c1,c2]++ys.drop ((i+1)*3):=by
 apply List.ext_getElem?;intro q;rw[List.append_assoc,List.getElem?_append,List.getElem?_append];simp only[List.getElem?_set,List.length_set,List.length_take,List.length_cons,List.length_nil,List.getElem?_drop,List.getElem?_take];rw[Nat.min_eq_left (show i*3≤ys.length by omega)];by_cases h1:q<i*3
 · rw[if_neg (by omega),if_neg (by omega),if_neg (by omega),if_pos h1,if_pos h1]
 · rw[if_neg h1];by_cases h2:q<(i+1)*3
   · have h3:q=i*3∨q=i*3+1∨q=i*3+2:=by omega
     rcases h3 with rfl | rfl | rfl
     · rw[if_neg (by omega),if_neg (by omega),if_pos rfl,if_pos (by omega),if_pos (by omega),Nat.sub_self];rfl
     · rw[if_neg (by omega),if_pos rfl,if_pos (by omega),if_pos (by omega),show i*3+1-i*3=1 by omega];rfl
     · rw[if_pos rfl,if_pos (by omega),if_pos (by omega),show i*3+2-i*3=2 by omega];rfl
   · rw[if_neg (by omega),if_neg (by omega),if_neg (by omega),if_neg (by omega)]
     congr 1
     omega
def zEk (w:World) (B:Nat) (c:List Value) (d:NodeD):Prop:=∃c0 c1 c2,c=[c0,c1,c2]∧NodeR w B c0 c1 c2 d
theorem cellsN_iff {w:World}:∀{fs:List NodeD} {cs:List Value},CellsN w fs cs↔CellsG 3 (zEk w w.heap.size) fs cs
 | [],_=>Iff.rfl
 | d::r,cs=>by
   constructor
   · rintro⟨c0,c1,c2,cs',rfl,hd,hr⟩;exact⟨[c0,c1,c2],cs',rfl,rfl,⟨c0,c1,c2,rfl,hd⟩,cellsN_iff.1 hr⟩
   · rintro⟨c,cs',rfl,_,⟨c0,c1,c2,rfl,hd⟩,hr⟩;exact⟨c0,c1,c2,cs',rfl,hd,cellsN_iff.2 hr⟩
theorem zFt {w:World} {B:Nat} (c:List Value) (d:NodeD) (h:zEk w B c d):∀u∈c,u.oneCell'=true:=by
 obtain⟨_,_,_,rfl,rfl,⟨A,n,c,rfl,_⟩,rfl⟩:=h;intro u hu;simp only[List.mem_cons,List.not_mem_nil,or_false]at hu;rcases hu with rfl | rfl | rfl <;> rfl
theorem zDv {w:World} {B:Nat} {A:Option Addr} {n:Nat} {fs:List NodeD} (h:Nodes w B A n fs):∃cs,CellsG 3 (zEk w B) fs cs∧Reads w B 3 A n cs:=by
 obtain⟨hl,h2⟩:=h;rcases Nat.eq_zero_or_pos n with h0 | h0
 · subst h0;have:fs=[]:=List.eq_nil_of_length_eq_zero hl;subst this;exact⟨[],rfl,rfl,fun h=>absurd h (by omega)⟩
 · obtain⟨b,o,rfl,hb,hc⟩:=h2 h0
   obtain⟨cs,h3,h4⟩:=zCJ (R:=zEk w B) (sz:=3) (w:=w) b fs o (fun j hj=>by
    obtain⟨c0,c1,c2,e0,e1,e2,hr⟩:=hc j (by omega);refine⟨[c0,c1,c2],rfl,⟨c0,c1,c2,rfl,hr⟩,fun t ht=>?_⟩
    match t,ht with
    | 0,_=>exact e0
    | 1,_=>exact e1
    | 2,_=>exact e2)
   exact⟨cs,h3,by rw[h3.len,hl],fun _=>⟨_,rfl,hb,fun j u hu=>by rw[zKR];exact h4 j u hu⟩⟩
end Go.Proofs.YtgmaamnofhmecaaGreatDoor
namespace Go.Proofs.YtgmaamnofhmecaaGreatDoor
open Go.RowKit
def zAR (x:ByteArray) (d:NodeD):Bool:=decide (d.subs.getD 1 ByteArray.empty=x)
def atI (l:List NodeD) (x:ByteArray):Int:=wQ (zAR x) l 0
theorem zFv (A:Option Addr) (n c:Nat) (fs:List NodeD) (x:ByteArray) (w:World) (h:Nodes w w.heap.size A n fs) (hn:n≤1048576) (h2:∀d∈fs,d.subs.length=2) :
 Calls Tryz.prog 136 #[.slice A n c,.string x] w fun e w'=>e=.returned (.int .i64 (atI fs x))∧Below w.heap.size w w':=by
 have Hh:=zh h;have Hlen:=zh h.1;have H2:=zh h2;clear h h2;go_enter Tryz.func136,Tryz.ntmps136;go_wp2_with fail;go_loopw [5] (fun i wr=>∃(k:Nat),k≤n∧i=.int .i64 k∧Below w.heap.size w wr∧Hid (atI fs x=wQ (zAR x) (fs.drop k) k)) (fun i _=>n-(intOf i).toNat);case atStart=>exact⟨0,Nat.zero_le _,rfl,Below.refl _ _,rfl⟩
 case round =>
  obtain⟨k,hk,rfl,hb,hS⟩:=hrel;have HB:=zh hb;clear hb;by_cases hlt:k<n
  · obtain⟨bb,o,rfl,hbB,hc⟩:=(Hh.out.later HB.out).2 (by omega);obtain⟨c0,c1,c2,k0,k1,k2,hr⟩:=hc k hlt;clear hc;have hl:k<fs.length:=by rw[Hlen.out];exact hlt
    have HS:=zh (zDb (zAR x) fs k hl);have hsz:=H2.out _ (xD fs k hl);have HP:Hid (zAR x (fs.getD k default)=decide ((fs.getD k default).subs.getD 1 ByteArray.empty=x)):=rfl;clear hl;generalize fs.getD k default=d at *;obtain⟨e0,⟨A1,n1,cap1,e1,hs1,hcap1⟩,e2⟩:=hr;subst e0 e1 e2;obtain rfl:n1=2:=by rw[←hs1.1];exact hsz
    obtain⟨sb,so,rfl,hsb,hsc⟩:=hs1.2 (by omega);have hck:=hsc 1 (by omega);have i1:(k:Int)<(n:Int):=by omega
    clear hsc hs1 hsz;generalize zAR x d=kp at *;generalize d.subs.getD 1 ByteArray.empty=s at *;by_cases he:s=x
    · have HE:Hid (atI fs x=k):=by unfold Hid;rw[hS.out,HS.out,if_pos (by rw[HP.out];simp[he])]
      subst he
      first
        | (go_wp2_with fail;go_quiet (fail);go_wp2_with fail;go_ret;exact⟨yB HE.out.symm,yE HB.out _⟩)
        | (go_wp2_with fail;go_ret;exact⟨yB HE.out.symm,HB.out⟩)
    · have HE:Hid (atI fs x=wQ (zAR x) (fs.drop (k+1)) (k+1)):=by unfold Hid;rw[hS.out,HS.out,if_neg (by rw[HP.out];simp[he])]
      have hbq:=vE he;clear he
      first
        | (go_wp2_with fail
           go_quiet (fail)
           go_wp2_with fail;go_roundw;case rel=>exact⟨k+1,by omega,by go_num,yE HB.out _,HE.out⟩
           case measure=>simp[intOf];omega)
        | (go_wp2_with fail
           go_roundw;case rel=>exact⟨k+1,by omega,by go_num,HB.out,HE.out⟩
           case measure=>simp[intOf];omega)
  · have HE:Hid (atI fs x=-1):=by unfold Hid;rw[hS.out,List.drop_of_length_le (by rw[Hlen.out];omega)];rfl
    go_wp2_with fail;go_ret;exact⟨yB HE.out.symm,HB.out⟩
end Go.Proofs.YtgmaamnofhmecaaGreatDoor
