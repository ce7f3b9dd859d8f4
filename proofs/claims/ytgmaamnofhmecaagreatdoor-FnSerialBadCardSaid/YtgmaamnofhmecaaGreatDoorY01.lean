import Derived.Test.YtgmaamnofhmecaaGreatDoorY00
import Derived.Test.YtgmaamnofhmecaaGreatDoorProg
import Derived.Deep.CutBlock
import Derived.Deep.DeepCutAuto
set_option linter.unusedSimpArgs false
set_option maxHeartbeats 2000000
namespace Go.Proofs.YtgmaamnofhmecaaGreatDoor
open Go.RowKit
set_option linter.unusedVariables false
structure NodeD where
 name:ByteArray
 subs:List ByteArray
 val:ByteArray
deriving Inhabited
def NodeR (w:World) (B:Nat) (c0 c1 c2:Value) (d:NodeD):Prop :=
 c0=.string d.name∧(∃A n cap,c1=.slice A n cap∧Strs w B A n d.subs∧n≤cap)∧c2=.string d.val
theorem NodeR.keep {w w':World} {B:Nat} {c0 c1 c2:Value} {d:NodeD} (h:NodeR w B c0 c1 c2 d) (hk:∀p:Addr,p.block<B→w'.cell? p=w.cell? p):NodeR w' B c0 c1 c2 d:=by
 obtain⟨e0,⟨A1,n1,p1,e1,s1,k1⟩,e2⟩:=h;exact⟨e0,⟨A1,n1,p1,e1,s1.keep hk,k1⟩,e2⟩
theorem NodeR.more {w:World} {B B':Nat} {c0 c1 c2:Value} {d:NodeD} (h:NodeR w B c0 c1 c2 d) (hB:B≤B'):NodeR w B' c0 c1 c2 d:=by
 obtain⟨e0,⟨A1,n1,p1,e1,s1,k1⟩,e2⟩:=h;exact⟨e0,⟨A1,n1,p1,e1,s1.more hB,k1⟩,e2⟩
theorem NodeR.later {w w':World} {c0 c1 c2:Value} {d:NodeD} (h:NodeR w w.heap.size c0 c1 c2 d) (hb:Below w.heap.size w w'):NodeR w' w'.heap.size c0 c1 c2 d :=
 (h.keep fun _ hp=>hb.cell hp).more hb.size
def Nodes (w:World) (B:Nat) (A:Option Addr) (n:Nat) (fs:List NodeD):Prop :=
 fs.length=n∧(0<n→∃b o,A=some ⟨b,o,none⟩∧b<B∧∀j,j<n→∃c0 c1 c2,w.cell? ⟨b,o+j*3,none⟩=some c0∧w.cell? ⟨b,o+j*3+1,none⟩=some c1∧w.cell? ⟨b,o+j*3+2,none⟩=some c2∧NodeR w B c0 c1 c2 (fs.getD j default))
section
variable {w w':World} {B B' n:Nat} {A:Option Addr} {fs:List NodeD}
theorem Nodes.keep (h:Nodes w B A n fs) (hk:∀p:Addr,p.block<B→w'.cell? p=w.cell? p):Nodes w' B A n fs :=
 ⟨h.1,fun hn=>by
   obtain⟨b,o,e,hb,hc⟩:=h.2 hn;refine⟨b,o,e,hb,fun j hj=>?_⟩;obtain⟨c0,c1,c2,h0,h1,h2,hr⟩:=hc j hj
   exact⟨c0,c1,c2,(hk _ hb).trans h0,(hk _ hb).trans h1,(hk _ hb).trans h2,hr.keep hk⟩⟩
theorem Nodes.more (h:Nodes w B A n fs) (hB:B≤B'):Nodes w B' A n fs :=
 ⟨h.1,fun hn=>by
   obtain⟨b,o,e,hb,hc⟩:=h.2 hn;refine⟨b,o,e,by omega,fun j hj=>?_⟩;obtain⟨c0,c1,c2,h0,h1,h2,hr⟩:=hc j hj
   exact⟨c0,c1,c2,h0,h1,h2,hr.more hB⟩⟩
theorem Nodes.later (h:Nodes w w.heap.size A n fs) (hb:Below w.heap.size w w'):Nodes w' w'.heap.size A n fs:=(h.keep fun _ hp=>hb.cell hp).more hb.size
end
def NodeD.small (d:NodeD):Prop:=d.name.size≤1048576∧(d.subs.length≤1048576∧∀s∈d.subs,s.size≤1048576)∧d.val.size≤1048576
end Go.Proofs.YtgmaamnofhmecaaGreatDoor
namespace Go.Proofs.YtgmaamnofhmecaaGreatDoor
open Go.RowKit
set_option linter.unusedVariables false
theorem zE0 {α:Type} [Inhabited α] (l:List α) (k:Nat) (h:k<l.length):l.getD k default∈l:=by
 rw[List.getD_eq_getElem?_getD,List.getElem?_eq_getElem h];simp
end Go.Proofs.YtgmaamnofhmecaaGreatDoor
namespace Go.Proofs.YtgmaamnofhmecaaGreatDoor
open Go.RowKit _root_.Go.Proofs.YtgmaamnofhmecaaGreatDoor.Own
set_option linter.unusedVariables false
theorem zM0 (w:World) (a b c:Obj):Below w.heap.size w (((w.alloc a).alloc b).alloc c):=((Below.new w a).later (Below.new _ b)).later (Below.new _ c)
def zBA:Kind NodeD:=⟨3,fun d v=>[.string d.name,v,.string d.val],fun d=>d.subs,fun _ _=>rfl,by decide⟩
theorem zS0:(Tryz.prog.info? 102).map (fun i=>(i.zero,i.size,i.bytes))=some (some (.agg #[.string .empty,.slice none 0 0,.string .empty]),3,56):=by kernel_rfl
theorem OwnL.Nodes {w:World} {base t:Nat} {v:Value} {fs:List NodeD} {vs:List Value} (h:OwnL zBA w base t v fs vs):∃A cap,v=.slice A fs.length cap∧fs.length≤cap∧Nodes w w.heap.size A fs.length fs:=by
 obtain⟨A,cap,rfl,hc,_,hA⟩:=own_slice h.row;refine⟨A,cap,rfl,hc,rfl,fun hn=>?_⟩;obtain⟨g,rfl,hg,_⟩:=hA hn;refine⟨g,0,rfl,hg,fun j hj=>?_⟩;have h0:=h.cellAt rfl j 0 hj (by decide);have h1:=h.cellAt rfl j 1 hj (by decide);have h2:=h.cellAt rfl j 2 hj (by decide);obtain⟨A1,cap1,e1,hc1,hs1⟩:=(h.subs j hj).strs;refine⟨_,_,_,by rw[Nat.zero_add];exact h0,by rw[Nat.zero_add];exact h1,by rw[Nat.zero_add];exact h2,rfl,⟨A1,_,cap1,e1,hs1,hc1⟩,rfl⟩
end Go.Proofs.YtgmaamnofhmecaaGreatDoor
namespace Go.Proofs.YtgmaamnofhmecaaGreatDoor
def isD (c:UInt8):Bool:=decide (48≤c.toNat)&&decide (c.toNat≤57)
def zAb (c:UInt8):Bool:=decide (c=43)||decide (c=45)
def dV (c:UInt8):Nat:=c.toNat-48
def wE:Nat:=999999999999999999
def vV:List UInt8→Bool→Bool × List UInt8
 | [],m=>(m,[])
 | c::r,m=>if zAb c=true then vV r (m != decide (c=45)) else (m,c::r)
def zBo:List UInt8→Nat→Nat × List UInt8
 | [],n=>(n,[])
 | c::r,n=>if isD c=true then zBo r (min (10*n+dV c) 1000000000000) else (n,c::r)
def zBF:List UInt8→Nat→Nat→Nat
 | [],_,n=>n
 | c::r,u,n=>if isD c=true then zBF r (u / 10) (n+dV c*u) else n
def vN:List UInt8→Option (List UInt8)
 | []=>none
 | c::r=>if c=46 then some r else none
def zAo:Option (List UInt8)→Nat→Nat
 | some t,n=>zBF t 100000 n
 | none,n=>n
def zR0 (l:List UInt8):Nat:=min (zAo (vN (zBo l 0).2) (min ((zBo l 0).1*1000000) 1000000000000000000)) wE
def zH0 (l:List UInt8):Int:=if (vV l false).1=true then -(zR0 (vV l false).2:Int) else zR0 (vV l false).2
def wF:List UInt8→Nat→Nat
 | [],n=>n
 | c::r,n=>if (wE-dV c) / 10<n then wE else wF r (10*n+dV c)
def zU0 (r:List UInt8):List UInt8:=match vN (r.dropWhile isD) with
 | some t=>t.takeWhile isD
 | none=>[]
def zJe (r:List UInt8):Nat:=wF (r.takeWhile isD++(zU0 r++List.replicate 6 48).take 6) 0
def zHq (l:List UInt8):Int:=if (l.takeWhile zAb).count 45 % 2=1 then -(zJe (l.dropWhile zAb):Int) else zJe (l.dropWhile zAb)
theorem zFQ:∀(l:List UInt8) (m:Bool),vV l m=((m != decide ((l.takeWhile zAb).count 45 % 2=1)),l.dropWhile zAb)
 | [],m=>by simp[vV]
 | c::r,m=>by
   unfold vV;by_cases h:zAb c=true
   · rw[if_pos h,zFQ r,List.takeWhile_cons_of_pos h,List.dropWhile_cons_of_pos h];refine Prod.ext ?_ rfl;by_cases hc:c=45
     · subst hc;rw[List.count_cons_self];cases m <;> by_cases h2:(r.takeWhile zAb).count 45 % 2=1 <;> simp[h2] <;> omega
     · rw[List.count_cons_of_ne hc];simp[hc]
   · rw[if_neg h,List.takeWhile_cons_of_neg h,List.dropWhile_cons_of_neg h];simp
def vK (l:List UInt8) (n:Nat):Nat:=l.foldl (fun n c=>10*n+dV c) n
theorem zCT:∀(l:List UInt8) (n:Nat),n≤vK l n
 | [],n=>Nat.le_refl _
 | c::r,n=>by have:=zCT r (10*n+dV c);show n≤vK r (10*n+dV c);omega
theorem zIn:∀(l:List UInt8) (n:Nat),n≤1000000000000→zBo l n=(min (vK (l.takeWhile isD) n) 1000000000000,l.dropWhile isD)
 | [],n,h=>by simp[zBo,vK];omega
 | c::r,n,h=>by
   unfold zBo;by_cases hd:isD c=true
   · rw[if_pos hd,zIn r _ (by omega),List.takeWhile_cons_of_pos hd,List.dropWhile_cons_of_pos hd];refine Prod.ext ?_ rfl;show min (vK (r.takeWhile isD) (min (10*n+dV c) 1000000000000)) 1000000000000=min (vK (r.takeWhile isD) (10*n+dV c)) 1000000000000;by_cases hc:10*n+dV c≤1000000000000
     · rw[Nat.min_eq_left hc]
     · rw[Nat.min_eq_right (show 1000000000000≤10*n+dV c by omega)];have h1:=zCT (r.takeWhile isD) 1000000000000;have h2:=zCT (r.takeWhile isD) (10*n+dV c);omega
   · rw[if_neg hd,List.takeWhile_cons_of_neg hd,List.dropWhile_cons_of_neg hd];refine Prod.ext ?_ rfl;show n=min (vK [] n) 1000000000000;simp[vK];omega
def fv:Nat→List UInt8→Nat
 | 0,_=>0
 | _+1,[]=>0
 | k+1,c::r=>if isD c=true then dV c*10 ^ k+fv k r else 0
def zBW:Nat→Nat
 | 0=>0
 | k+1=>10 ^ k
theorem zJh:∀k,zBW k / 10=zBW (k-1)
 | 0=>rfl
 | 1=>rfl
 | k+2=>by show 10 ^ (k+1) / 10=10 ^ k;rw[Nat.pow_succ];omega
theorem zGx:∀(t:List UInt8) (k n:Nat),zBF t (zBW k) n=n+fv k t
 | [],0,n=>rfl
 | [],k+1,n=>rfl
 | c::r,k,n=>by
   unfold zBF;by_cases hd:isD c=true
   · rw[if_pos hd,zJh,zGx r]
     cases k with
     | zero=>simp[zBW,fv]
     | succ k=>simp only[fv,if_pos hd,zBW,Nat.add_sub_cancel];omega
   · rw[if_neg hd]
     cases k with
     | zero=>simp[fv]
     | succ k=>simp[fv,hd]
theorem zGG (c:UInt8) (h:isD c=true):dV c≤9:=by
 simp[isD]at h;unfold dV;omega
theorem zKG:∀(k:Nat) (t:List UInt8),fv k t<10 ^ k
 | 0,_=>by simp[fv]
 | k+1,[]=>by simp[fv];exact Nat.pow_pos (by omega)
 | k+1,c::r=>by
   unfold fv;split
   · rename_i hd;have h1:=zKG k r;have h2:=zGG c hd;have h3:dV c*10 ^ k≤9*10 ^ k:=Nat.mul_le_mul_right _ h2;rw[Nat.pow_succ];omega
   · exact Nat.pow_pos (by omega)
theorem zZ0:∀(k a:Nat),vK (List.replicate k 48) a=a*10 ^ k
 | 0,a=>by simp[vK]
 | k+1,a=>by show vK (List.replicate k 48) (10*a+dV 48)=_;rw[zZ0 k,Nat.pow_succ];have:dV 48=0:=rfl;rw[this,Nat.add_zero,Nat.mul_comm 10 a,Nat.mul_assoc,Nat.mul_comm 10]
theorem zBV:∀(k:Nat) (t:List UInt8) (a:Nat),vK ((t.takeWhile isD++List.replicate k 48).take k) a=a*10 ^ k+fv k t
 | 0,t,a=>by simp[vK,fv]
 | k+1,[],a=>by rw[List.takeWhile_nil,List.nil_append,List.take_of_length_le (by simp),zZ0];simp[fv]
 | k+1,c::r,a=>by
   by_cases hd:isD c=true
   · rw[List.takeWhile_cons_of_pos hd];show vK ((r.takeWhile isD++List.replicate (k+1) 48).take k) (10*a+dV c)=_;have e:(r.takeWhile isD++List.replicate (k+1) 48).take k=(r.takeWhile isD++List.replicate k 48).take k:=by rw[List.replicate_succ',←List.append_assoc,List.take_append_of_le_length (by simp)]
     rw[e,zBV k r];simp only[fv,if_pos hd,Nat.pow_succ];rw[Nat.add_mul,Nat.mul_comm 10 a,Nat.mul_assoc,Nat.mul_comm 10];omega
   · rw[List.takeWhile_cons_of_neg hd,List.nil_append,List.take_of_length_le (by simp),zZ0];simp[fv,hd]
theorem zDm:∀(l:List UInt8) (n:Nat),(∀c∈l,dV c≤9)→n≤wE→wF l n=min (vK l n) wE
 | [],n,_,h=>by simp[wF,vK];omega
 | c::r,n,hl,h=>by
   have hc:=hl c List.mem_cons_self;unfold wF;have hm:wE=999999999999999999:=rfl;split
   · rename_i h1;have h2:wE<10*n+dV c:=by omega
     have h3:=zCT r (10*n+dV c);show wE=min (vK r (10*n+dV c)) wE;omega
   · exact zDm r _ (fun x hx=>hl x (List.mem_cons_of_mem _ hx)) (by omega)
theorem uK {p:UInt8→Bool}:∀(l:List UInt8) (c:UInt8),c∈l.takeWhile p→p c=true
 | [],c,h=>by simp at h
 | x::r,c,h=>by
   by_cases hx:p x=true
   · rw[List.takeWhile_cons_of_pos hx]at h;rcases List.mem_cons.1 h with rfl | h
     · exact hx
     · exact uK r c h
   · rw[List.takeWhile_cons_of_neg hx]at h;cases h
theorem zFC (r:List UInt8):zJe r=zR0 r:=by
 unfold zJe zR0;rw[zIn r 0 (by omega)];have hm:wE=999999999999999999:=rfl
 have hall:∀c∈r.takeWhile isD++(zU0 r++List.replicate 6 48).take 6,dV c≤9:=by
  intro c hc;rcases List.mem_append.1 hc with h | h
  · exact zGG c (uK _ _ h)
  · rcases List.mem_append.1 (List.mem_of_mem_take h) with h | h
    · unfold zU0 at h;split at h
      · exact zGG c (uK _ _ h)
      · cases h
    · rw[List.eq_of_mem_replicate h];decide
 rw[zDm _ _ hall (by omega)]
 have hv:vK (r.takeWhile isD++(zU0 r++List.replicate 6 48).take 6) 0=vK (r.takeWhile isD) 0*10 ^ 6+(match vN (r.dropWhile isD) with | some t=>fv 6 t | none=>0):=by
  show List.foldl _ 0 _=_;rw[List.foldl_append];show vK _ (vK _ 0)=_;unfold zU0
  cases vN (r.dropWhile isD) with
  | some t=>exact zBV 6 t _
  | none=>have:=zBV 6 [] (vK (r.takeWhile isD) 0);simpa [fv] using this
 rw[hv];simp only
 cases vN (r.dropWhile isD) with
 | some t=>have h1:=zGx t 6 (min (min (vK (r.takeWhile isD) 0) 1000000000000*1000000) 1000000000000000000);have h2:zBW 6=100000:=rfl;rw[h2]at h1;simp only[zAo,h1];have h3:=zKG 6 t;omega
 | none=>simp only[zAo];omega
theorem zFh (l:List UInt8):zHq l=zH0 l:=by
 unfold zHq zH0;rw[zFQ];simp only[zFC];by_cases h:(l.takeWhile zAb).count 45 % 2=1 <;> simp[h]
theorem zAe (l:List UInt8):zR0 l≤wE:=by unfold zR0;exact Nat.min_le_right _ _
theorem zKj (l:List UInt8):-(wE:Int)≤zH0 l∧zH0 l≤wE:=by
 have:=zAe (vV l false).2;unfold zH0;split <;> omega
end Go.Proofs.YtgmaamnofhmecaaGreatDoor
namespace Go.Proofs.YtgmaamnofhmecaaGreatDoor
open Go.RowKit
theorem uZ (c:UInt8) (w:World) :
 Calls Tryz.prog 250 #[.int .u8 c.toNat] w fun e w'=>e=.returned (.bool (isD c))∧w=w':=by
 unfold isD;generalize c.toNat=n;by_cases h1:48≤n
 · by_cases h2:n≤57
   all_goals
    go_enter Tryz.func250,Tryz.ntmps250
    go_wp2
    go_ret;exact⟨zA0 (by first | (simp;done) | (simp;omega) | (rw[Bool.eq_iff_iff];simp;omega)),rfl⟩
 · go_enter Tryz.func250,Tryz.ntmps250
   go_wp2
   go_ret;exact⟨zA0 (by first | (simp;done) | (simp;omega) | (rw[Bool.eq_iff_iff];simp;omega)),rfl⟩
theorem yO (a b:Int) (w:World) :
 Calls Tryz.prog 309 #[.int .i64 a,.int .i64 b] w fun e w'=>e=.returned (.int .i64 (min a b))∧w=w':=by
 by_cases h:a<b
 · go_enter Tryz.func309,Tryz.ntmps309
   go_wp2
   go_ret;exact⟨xB (by omega),rfl⟩
 · go_enter Tryz.func309,Tryz.ntmps309
   go_wp2
   go_ret;exact⟨xB (by omega),rfl⟩
theorem zBM (c:UInt8) (n:Nat) (hn:n<256):((c.toNat:Int)==(n:Int))=decide (c=UInt8.ofNat n):=by
 rw[Bool.eq_iff_iff,beq_iff_eq,decide_eq_true_iff];constructor
 · intro h;apply UInt8.toNat_inj.1;rw[UInt8.toNat_ofNat',Nat.mod_eq_of_lt hn];omega
 · rintro rfl;rw[UInt8.toNat_ofNat',Nat.mod_eq_of_lt hn]
theorem wK (s:ByteArray) (k:Nat) (hk:k<s.size):s.data.toList.drop k=s[k]::s.data.toList.drop (k+1) :=
 List.drop_eq_getElem_cons (by rw[←Lib.size_eq];exact hk)
theorem wU (s:ByteArray) (k:Nat) (hk:s.size≤k):s.data.toList.drop k=[]:=List.drop_of_length_le (by rw[←Lib.size_eq];exact hk)
set_option maxRecDepth 100000 in
theorem zAT (s:ByteArray) (w:World) (hs:s.size≤1048576) :
 Calls Tryz.prog 288 #[.string s] w fun e w'=>e=.returned (.int .i64 (zH0 s.data.toList))∧w=w':=by
 go_enter Tryz.func288,Tryz.ntmps288
 go_upto_block 0 with (fail)
 go_cut [3,4] (fun i m wx=>w=wx∧∃(k:Nat) (b:Bool),k≤s.size∧i=.int .i64 k∧m=.bool b∧Hid (vV s.data.toList false=(b,s.data.toList.drop k)))
 case first =>
  go_wp2_with fail
  go_loop [3,4] (fun i m=>∃(k:Nat) (b:Bool),k≤s.size∧i=.int .i64 k∧m=.bool b∧Hid (vV s.data.toList false=vV (s.data.toList.drop k) b)) (fun i _=>s.size-(intOf i).toNat)
  case atStart=>exact⟨0,false,Nat.zero_le _,rfl,rfl,rfl⟩
  case round =>
   obtain⟨k,b,hk,rfl,rfl,hS⟩:=hrel;by_cases hlt:k<s.size
   · have HD:=Lib.hid (wK s k hlt);by_cases c1:s[k]=43
     · have hb1:((s[k].toNat:Int)==43)=true:=by rw[c1];rfl
       have hb2:((s[k].toNat:Int)==45)=false:=by rw[c1];rfl
       have HC:=Lib.hid c1;clear c1;go_wp2_with fail
       go_round
       case rel=>exact⟨k+1,b,by omega,by go_num,by cases b <;> rfl,by unfold Hid;rw[hS.out,HD.out,HC.out];cases b <;> rfl⟩
       case measure=>simp[intOf];omega
     · by_cases c2:s[k]=45
       · have hb1:((s[k].toNat:Int)==43)=false:=by rw[c2];rfl
         have hb2:((s[k].toNat:Int)==45)=true:=by rw[c2];rfl
         have HC:=Lib.hid c2;clear c1 c2;go_wp2_with fail
         go_round
         case rel=>exact⟨k+1,!b,by omega,by go_num,by cases b <;> rfl,by unfold Hid;rw[hS.out,HD.out,HC.out];cases b <;> rfl⟩
         case measure=>simp[intOf];omega
       · have hb1:((s[k].toNat:Int)==43)=false:=by have:=zBM s[k] 43 (by omega);rw[decide_eq_false (by exact c1)]at this;exact this
         have hb2:((s[k].toNat:Int)==45)=false:=by have:=zBM s[k] 45 (by omega);rw[decide_eq_false (by exact c2)]at this;exact this
         have HE:Hid (vV s.data.toList false=(b,s.data.toList.drop k)):=by unfold Hid;rw[hS.out,HD.out];unfold vV;rw[if_neg (by simp[zAb,c1,c2])]
         clear c1 c2;go_wp2_with fail
         go_meet
         exact⟨rfl,k,b,hk,rfl,rfl,HE.out⟩
   · have HE:Hid (vV s.data.toList false=(b,s.data.toList.drop k)):=by unfold Hid;rw[hS.out,wU s k (by omega)];rfl
     go_wp2_with fail
     go_meet
     exact⟨rfl,k,b,hk,rfl,rfl,HE.out⟩
 case rest =>
  obtain⟨rfl,k,b,hk,rfl,rfl,hK⟩:=hcut;have HN:Hid (zH0 s.data.toList=if b=true then -(zR0 (s.data.toList.drop k):Int) else zR0 (s.data.toList.drop k)):=by unfold Hid zH0;rw[hK.out]
  clear hK
  go_upto_block 2 with (fail)
  go_cut [3,5] (fun i n wx=>w=wx∧∃(j m:Nat),j≤s.size∧m≤1000000000000∧i=.int .i64 j∧n=.int .i64 m∧Hid (zBo (s.data.toList.drop k) 0=(m,s.data.toList.drop j)))
  case first =>
   go_wp2_with fail
   go_loop [3,5] (fun i n=>∃(j m:Nat),j≤s.size∧m≤1000000000000∧i=.int .i64 j∧n=.int .i64 m∧Hid (zBo (s.data.toList.drop k) 0=zBo (s.data.toList.drop j) m)) (fun i _=>s.size-(intOf i).toNat)
   case atStart=>exact⟨k,0,hk,by omega,rfl,rfl,rfl⟩
   case round =>
    obtain⟨j,m,hj,hm,rfl,rfl,hS⟩:=hrel;by_cases hlt:j<s.size
    · have HD:=Lib.hid (wK s j hlt);have HK:=Lib.hid (uZ s[j]);cases hd:isD s[j]
      · have HE:Hid (zBo (s.data.toList.drop k) 0=(m,s.data.toList.drop j)):=by unfold Hid;rw[hS.out,HD.out];unfold zBo;rw[if_neg (by rw[hd];simp)]
        rw[hd]at HK;clear hd;go_wp2_with fail;refine(HK.out _).mono ?_;rintro e w' ⟨rfl,rfl⟩;go_wp2_with fail
        go_meet
        exact⟨rfl,j,m,hj,hm,rfl,rfl,HE.out⟩
      · have hd9:=zGG s[j] hd;have hge:48≤s[j].toNat:=by simp[isD]at hd;exact hd.1
        have hle:s[j].toNat≤57:=by simp[isD]at hd;exact hd.2
        have HE:Hid (zBo (s.data.toList.drop k) 0=zBo (s.data.toList.drop (j+1)) (min (10*m+dV s[j]) 1000000000000)):=by
         unfold Hid;rw[hS.out,HD.out]
         conv=>lhs;unfold zBo
         rw[if_pos hd]
        have hdv:(dV s[j]:Int)=(s[j].toNat:Int)-48:=by unfold dV;omega
        rw[hd]at HK;have HV:=Lib.hid hdv;clear hd hdv;go_wp2_with fail;refine(HK.out _).mono ?_;rintro e w' ⟨rfl,rfl⟩;go_wp2_with fail;refine(yO _ _ _).mono ?_;rintro e w' ⟨rfl,rfl⟩;go_wp2_with fail
        go_round
        case rel=>exact⟨j+1,min (10*m+dV s[j]) 1000000000000,by omega,by omega,by go_num,by have:=HV.out;congr 1;omega,HE.out⟩
        case measure=>simp[intOf];omega
    · have HE:Hid (zBo (s.data.toList.drop k) 0=(m,s.data.toList.drop j)):=by unfold Hid;rw[hS.out,wU s j (by omega)];rfl
      go_wp2_with fail
      go_meet
      exact⟨rfl,j,m,hj,hm,rfl,rfl,HE.out⟩
  case rest =>
   obtain⟨rfl,j,m,hj,hm,rfl,rfl,hD⟩:=hcut;have HA:Hid (zR0 (s.data.toList.drop k)=min (zAo (vN (s.data.toList.drop j)) (min (m*1000000) 1000000000000000000)) wE):=by unfold Hid zR0;rw[hD.out]
   clear hD;go_wp2_with fail;refine(yO _ _ _).mono ?_;rintro e w' ⟨rfl,rfl⟩;obtain⟨N,hN⟩:∃N:Nat,N=min (m*1000000) 1000000000000000000:=⟨_,rfl⟩;have hN2:min ((m:Int)*1000000) 1000000000000000000=(N:Int):=by omega
   have hN3:N≤1000000000000000000:=by omega
   rw[hN2];rw[←hN]at HA;clear hN hN2;by_cases hlt:j<s.size
   · have HD:=Lib.hid (wK s j hlt);by_cases c1:s[j]=46
     · have hb1:((s[j].toNat:Int)==46)=true:=by rw[c1];rfl
       have HF:Hid (zR0 (s.data.toList.drop k)=min (zBF (s.data.toList.drop (j+1)) 100000 N) wE):=by unfold Hid;rw[HA.out,HD.out,c1];rfl
       clear c1;go_wp2_with fail
       go_loop [3,5,6] (fun i n u=>∃(p q v:Nat),p≤s.size∧i=.int .i64 p∧n=.int .i64 q∧u=.int .i64 v∧v≤100000∧q+10*v≤1000000000001000000∧Hid (zR0 (s.data.toList.drop k)=min (zBF (s.data.toList.drop p) v q) wE)) (fun i _ _=>s.size-(intOf i).toNat)
       case atStart=>exact⟨j+1,N,100000,by omega,by go_num,rfl,rfl,by omega,by omega,HF.out⟩
       case round =>
        obtain⟨p,q,v,hp,rfl,rfl,rfl,hv,hq,hS⟩:=hrel;by_cases hlt2:p<s.size
        · have HD2:=Lib.hid (wK s p hlt2);have HK:=Lib.hid (uZ s[p]);cases hd:isD s[p]
          · have HE:Hid (zR0 (s.data.toList.drop k)=min q wE):=by unfold Hid;rw[hS.out,HD2.out];unfold zBF;rw[if_neg (by rw[hd];simp)]
            rw[hd]at HK;clear hd;go_wp2_with fail;refine(HK.out _).mono ?_;rintro e w' ⟨rfl,rfl⟩;go_wp2_with fail;have HM:Hid (min (q:Int) 999999999999999999=(zR0 (s.data.toList.drop k):Int)):=by unfold Hid;rw[HE.out];unfold wE;omega
            refine(yO _ _ _).mono ?_;rintro e w' ⟨rfl,rfl⟩;rw[HM.out];have hle:=zAe (s.data.toList.drop k);unfold wE at hle;generalize zR0 (s.data.toList.drop k)=R at *;cases b
            all_goals
             go_wp2_with fail;go_ret;exact⟨xB (by rw[HN.out];simp),rfl⟩
          · have hd9:=zGG s[p] hd;have hge:48≤s[p].toNat:=by simp[isD]at hd;exact hd.1
            have hle:s[p].toNat≤57:=by simp[isD]at hd;exact hd.2
            have HE:Hid (zR0 (s.data.toList.drop k)=min (zBF (s.data.toList.drop (p+1)) (v / 10) (q+dV s[p]*v)) wE):=by
             unfold Hid;rw[hS.out,HD2.out]
             conv=>lhs;unfold zBF
             rw[if_pos hd]
            have hdv:(dV s[p]:Int)=(s[p].toNat:Int)-48:=by unfold dV;omega
            have hmul:dV s[p]*v≤9*v:=Nat.mul_le_mul_right _ hd9;obtain⟨dd,hdd⟩:∃dd:Nat,(s[p].toNat:Int)-48=dd:=⟨dV s[p],hdv.symm⟩;have hdd2:dV s[p]=dd:=by omega
            rw[hd]at HK;rw[hdd2]at HE hmul hd9;have HX:=Lib.hid hdd;obtain⟨x,hx⟩:∃x:Nat,dd*v=x:=⟨_,rfl⟩;rw[hx]at HE hmul;have HX2:=Lib.hid hx;clear hd hdv hdd hdd2 hx;go_wp2_with fail;refine(HK.out _).mono ?_;rintro e w' ⟨rfl,rfl⟩;go_wp2_with fail
            go_round
            case rel =>
             refine⟨p+1,q+x,v / 10,by omega,by go_num,?_,by go_num,by omega,by omega,HE.out⟩;have e1:(dd:Int)*(v:Int)=(x:Int):=by rw[←HX2.out];simp
             rw[HX.out,e1,IntWalk.wrap64_in (x:Int) ⟨by omega,by omega⟩,IntWalk.wrap64_in ((q:Int)+(x:Int)) ⟨by omega,by omega⟩]
             congr 1
            case measure=>simp[intOf];omega
        · have HE:Hid (zR0 (s.data.toList.drop k)=min q wE):=by unfold Hid;rw[hS.out,wU s p (by omega)];rfl
          go_wp2_with fail;have HM:Hid (min (q:Int) 999999999999999999=(zR0 (s.data.toList.drop k):Int)):=by unfold Hid;rw[HE.out];unfold wE;omega
          refine(yO _ _ _).mono ?_;rintro e w' ⟨rfl,rfl⟩;rw[HM.out];have hle:=zAe (s.data.toList.drop k);unfold wE at hle;generalize zR0 (s.data.toList.drop k)=R at *;cases b
          all_goals
           go_wp2_with fail;go_ret;exact⟨xB (by rw[HN.out];simp),rfl⟩
     · have hb1:((s[j].toNat:Int)==46)=false:=by have:=zBM s[j] 46 (by omega);rw[decide_eq_false (by exact c1)]at this;exact this
       have HE:Hid (zR0 (s.data.toList.drop k)=min N wE):=by unfold Hid;rw[HA.out,HD.out];simp only[vN,if_neg c1,zAo]
       clear c1;go_wp2_with fail;have HM:Hid (min (N:Int) 999999999999999999=(zR0 (s.data.toList.drop k):Int)):=by unfold Hid;rw[HE.out];unfold wE;omega
       refine(yO _ _ _).mono ?_;rintro e w' ⟨rfl,rfl⟩;rw[HM.out];have hle:=zAe (s.data.toList.drop k);unfold wE at hle;generalize zR0 (s.data.toList.drop k)=R at *;cases b
       all_goals
        go_wp2_with fail;go_ret;exact⟨xB (by rw[HN.out];simp),rfl⟩
   · have HE:Hid (zR0 (s.data.toList.drop k)=min N wE):=by unfold Hid;rw[HA.out,wU s j (by omega)];rfl
     go_wp2_with fail;have HM:Hid (min (N:Int) 999999999999999999=(zR0 (s.data.toList.drop k):Int)):=by unfold Hid;rw[HE.out];unfold wE;omega
     refine(yO _ _ _).mono ?_;rintro e w' ⟨rfl,rfl⟩;rw[HM.out];have hle:=zAe (s.data.toList.drop k);unfold wE at hle;generalize zR0 (s.data.toList.drop k)=R at *;cases b
     all_goals
      go_wp2_with fail;go_ret;exact⟨xB (by rw[HN.out];simp),rfl⟩
end Go.Proofs.YtgmaamnofhmecaaGreatDoor
