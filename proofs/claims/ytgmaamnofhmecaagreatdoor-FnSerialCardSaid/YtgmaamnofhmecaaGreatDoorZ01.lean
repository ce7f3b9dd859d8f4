import Derived.Test.YtgmaamnofhmecaaGreatDoorZ00
namespace Go.Proofs.YtgmaamnofhmecaaGreatDoor
open Go.RowKit
set_option linter.unusedVariables false
structure NodeD where
 name:ByteArray
 subs:List ByteArray
 val:ByteArray
deriving Inhabited
def NodeR (w:World) (B:Nat) (c0 c1 c2:Value) (d:NodeD):Prop :=
 c0=.string d.name∧(∃A n cap,c1=.slice A n cap∧Strs w B A n d.subs∧n≤cap)∧c2=.string d.val
theorem NodeR.keep {w w':World} {B:Nat} {c0 c1 c2:Value} {d:NodeD} (h:NodeR w B c0 c1 c2 d) (hk:∀p:Addr,p.block<B→w'.cell? p=w.cell? p):NodeR w' B c0 c1 c2 d:=by
 obtain⟨e0,⟨A1,n1,p1,e1,s1,k1⟩,e2⟩:=h;exact⟨e0,⟨A1,n1,p1,e1,s1.keep hk,k1⟩,e2⟩
theorem NodeR.more {w:World} {B B':Nat} {c0 c1 c2:Value} {d:NodeD} (h:NodeR w B c0 c1 c2 d) (hB:B≤B'):NodeR w B' c0 c1 c2 d:=by
 obtain⟨e0,⟨A1,n1,p1,e1,s1,k1⟩,e2⟩:=h;exact⟨e0,⟨A1,n1,p1,e1,s1.more hB,k1⟩,e2⟩
theorem NodeR.later {w w':World} {c0 c1 c2:Value} {d:NodeD} (h:NodeR w w.heap.size c0 c1 c2 d) (hb:Below w.heap.size w w'):NodeR w' w'.heap.size c0 c1 c2 d :=
 (h.keep fun _ hp=>hb.cell hp).more hb.size
def Nodes (w:World) (B:Nat) (A:Option Addr) (n:Nat) (fs:List NodeD):Prop :=
 fs.length=n∧(0<n→∃b o,A=some ⟨b,o,none⟩∧b<B∧∀j,j<n→∃c0 c1 c2,w.cell? ⟨b,o+j*3,none⟩=some c0∧w.cell? ⟨b,o+j*3+1,none⟩=some c1∧w.cell? ⟨b,o+j*3+2,none⟩=some c2∧NodeR w B c0 c1 c2 (fs.getD j default))
section
variable {w w':World} {B B' n:Nat} {A:Option Addr} {fs:List NodeD}
theorem Nodes.keep (h:Nodes w B A n fs) (hk:∀p:Addr,p.block<B→w'.cell? p=w.cell? p):Nodes w' B A n fs :=
 ⟨h.1,fun hn=>by
   obtain⟨b,o,e,hb,hc⟩:=h.2 hn;refine⟨b,o,e,hb,fun j hj=>?_⟩;obtain⟨c0,c1,c2,h0,h1,h2,hr⟩:=hc j hj
   exact⟨c0,c1,c2,(hk _ hb).trans h0,(hk _ hb).trans h1,(hk _ hb).trans h2,hr.keep hk⟩⟩
theorem Nodes.more (h:Nodes w B A n fs) (hB:B≤B'):Nodes w B' A n fs :=
 ⟨h.1,fun hn=>by
   obtain⟨b,o,e,hb,hc⟩:=h.2 hn;refine⟨b,o,e,by omega,fun j hj=>?_⟩;obtain⟨c0,c1,c2,h0,h1,h2,hr⟩:=hc j hj
   exact⟨c0,c1,c2,h0,h1,h2,hr.more hB⟩⟩
theorem Nodes.later (h:Nodes w w.heap.size A n fs) (hb:Below w.heap.size w w'):Nodes w' w'.heap.size A n fs:=(h.keep fun _ hp=>hb.cell hp).more hb.size
end
def NodeD.small (d:NodeD):Prop:=d.name.size≤1048576∧(d.subs.length≤1048576∧∀s∈d.subs,s.size≤1048576)∧d.val.size≤1048576
end Go.Proofs.YtgmaamnofhmecaaGreatDoor
namespace Go.Proofs.YtgmaamnofhmecaaGreatDoor
open Go.RowKit
set_option linter.unusedVariables false
theorem yE {α:Type} [Inhabited α] (l:List α) (k:Nat) (h:k<l.length):l.getD k default∈l:=by
 rw[List.getD_eq_getElem?_getD,List.getElem?_eq_getElem h];simp
end Go.Proofs.YtgmaamnofhmecaaGreatDoor
namespace Go.Proofs.YtgmaamnofhmecaaGreatDoor
open Go.RowKit _root_.Go.Proofs.YtgmaamnofhmecaaGreatDoor.Own
set_option linter.unusedVariables false
theorem wM (w:World) (a b c:Obj):Below w.heap.size w (((w.alloc a).alloc b).alloc c):=((Below.new w a).later (Below.new _ b)).later (Below.new _ c)
def zBy:Kind NodeD:=⟨3,fun d v=>[.string d.name,v,.string d.val],fun d=>d.subs,fun _ _=>rfl,by decide⟩
theorem wS:(Tryz.prog.info? 102).map (fun i=>(i.zero,i.size,i.bytes))=some (some (.agg #[.string .empty,.slice none 0 0,.string .empty]),3,56):=by kernel_rfl
theorem OwnL.Nodes {w:World} {base t:Nat} {v:Value} {fs:List NodeD} {vs:List Value} (h:OwnL zBy w base t v fs vs):∃A cap,v=.slice A fs.length cap∧fs.length≤cap∧Nodes w w.heap.size A fs.length fs:=by
 obtain⟨A,cap,rfl,hc,_,hA⟩:=own_slice h.row;refine⟨A,cap,rfl,hc,rfl,fun hn=>?_⟩;obtain⟨g,rfl,hg,_⟩:=hA hn;refine⟨g,0,rfl,hg,fun j hj=>?_⟩;have h0:=h.cellAt rfl j 0 hj (by decide);have h1:=h.cellAt rfl j 1 hj (by decide);have h2:=h.cellAt rfl j 2 hj (by decide);obtain⟨A1,cap1,e1,hc1,hs1⟩:=(h.subs j hj).strs;refine⟨_,_,_,by rw[Nat.zero_add];exact h0,by rw[Nat.zero_add];exact h1,by rw[Nat.zero_add];exact h2,rfl,⟨A1,_,cap1,e1,hs1,hc1⟩,rfl⟩
end Go.Proofs.YtgmaamnofhmecaaGreatDoor
namespace Go.Proofs.YtgmaamnofhmecaaGreatDoor
def isD (c:UInt8):Bool:=decide (48≤c.toNat)&&decide (c.toNat≤57)
def zAd (c:UInt8):Bool:=decide (c=43)||decide (c=45)
def dV (c:UInt8):Nat:=c.toNat-48
def vE:Nat:=999999999999999999
def zW0:List UInt8→Bool→Bool × List UInt8
 | [],m=>(m,[])
 | c::r,m=>if zAd c=true then zW0 r (m != decide (c=45)) else (m,c::r)
def zBn:List UInt8→Nat→Nat × List UInt8
 | [],n=>(n,[])
 | c::r,n=>if isD c=true then zBn r (min (10*n+dV c) 1000000000000) else (n,c::r)
def zBD:List UInt8→Nat→Nat→Nat
 | [],_,n=>n
 | c::r,u,n=>if isD c=true then zBD r (u / 10) (n+dV c*u) else n
def zO0:List UInt8→Option (List UInt8)
 | []=>none
 | c::r=>if c=46 then some r else none
def zAp:Option (List UInt8)→Nat→Nat
 | some t,n=>zBD t 100000 n
 | none,n=>n
def vR (l:List UInt8):Nat:=min (zAp (zO0 (zBn l 0).2) (min ((zBn l 0).1*1000000) 1000000000000000000)) vE
def xH (l:List UInt8):Int:=if (zW0 l false).1=true then -(vR (zW0 l false).2:Int) else vR (zW0 l false).2
def wF:List UInt8→Nat→Nat
 | [],n=>n
 | c::r,n=>if (vE-dV c) / 10<n then vE else wF r (10*n+dV c)
def xU (r:List UInt8):List UInt8:=match zO0 (r.dropWhile isD) with
 | some t=>t.takeWhile isD
 | none=>[]
def zIL (r:List UInt8):Nat:=wF (r.takeWhile isD++(xU r++List.replicate 6 48).take 6) 0
def zGW (l:List UInt8):Int:=if (l.takeWhile zAd).count 45 % 2=1 then -(zIL (l.dropWhile zAd):Int) else zIL (l.dropWhile zAd)
theorem zFA:∀(l:List UInt8) (m:Bool),zW0 l m=((m != decide ((l.takeWhile zAd).count 45 % 2=1)),l.dropWhile zAd)
 | [],m=>by simp[zW0]
 | c::r,m=>by
   unfold zW0;by_cases h:zAd c=true
   · rw[if_pos h,zFA r,List.takeWhile_cons_of_pos h,List.dropWhile_cons_of_pos h];refine Prod.ext ?_ rfl;by_cases hc:c=45
     · subst hc;rw[List.count_cons_self];cases m <;> by_cases h2:(r.takeWhile zAd).count 45 % 2=1 <;> simp[h2] <;> omega
     · rw[List.count_cons_of_ne hc];simp[hc]
   · rw[if_neg h,List.takeWhile_cons_of_neg h,List.dropWhile_cons_of_neg h];simp
def yL (l:List UInt8) (n:Nat):Nat:=l.foldl (fun n c=>10*n+dV c) n
theorem zCK:∀(l:List UInt8) (n:Nat),n≤yL l n
 | [],n=>Nat.le_refl _
 | c::r,n=>by have:=zCK r (10*n+dV c);show n≤yL r (10*n+dV c);omega
theorem zHQ:∀(l:List UInt8) (n:Nat),n≤1000000000000→zBn l n=(min (yL (l.takeWhile isD) n) 1000000000000,l.dropWhile isD)
 | [],n,h=>by simp[zBn,yL];omega
 | c::r,n,h=>by
   unfold zBn;by_cases hd:isD c=true
   · rw[if_pos hd,zHQ r _ (by omega),List.takeWhile_cons_of_pos hd,List.dropWhile_cons_of_pos hd];refine Prod.ext ?_ rfl;show min (yL (r.takeWhile isD) (min (10*n+dV c) 1000000000000)) 1000000000000=min (yL (r.takeWhile isD) (10*n+dV c)) 1000000000000;by_cases hc:10*n+dV c≤1000000000000
     · rw[Nat.min_eq_left hc]
     · rw[Nat.min_eq_right (show 1000000000000≤10*n+dV c by omega)];have h1:=zCK (r.takeWhile isD) 1000000000000;have h2:=zCK (r.takeWhile isD) (10*n+dV c);omega
   · rw[if_neg hd,List.takeWhile_cons_of_neg hd,List.dropWhile_cons_of_neg hd];refine Prod.ext ?_ rfl;show n=min (yL [] n) 1000000000000;simp[yL];omega
def fv:Nat→List UInt8→Nat
 | 0,_=>0
 | _+1,[]=>0
 | k+1,c::r=>if isD c=true then dV c*10 ^ k+fv k r else 0
def zBS:Nat→Nat
 | 0=>0
 | k+1=>10 ^ k
theorem zIO:∀k,zBS k / 10=zBS (k-1)
 | 0=>rfl
 | 1=>rfl
 | k+2=>by show 10 ^ (k+1) / 10=10 ^ k;rw[Nat.pow_succ];omega
theorem zGg:∀(t:List UInt8) (k n:Nat),zBD t (zBS k) n=n+fv k t
 | [],0,n=>rfl
 | [],k+1,n=>rfl
 | c::r,k,n=>by
   unfold zBD;by_cases hd:isD c=true
   · rw[if_pos hd,zIO,zGg r]
     cases k with
     | zero=>simp[zBS,fv]
     | succ k=>simp only[fv,if_pos hd,zBS,Nat.add_sub_cancel];omega
   · rw[if_neg hd]
     cases k with
     | zero=>simp[fv]
     | succ k=>simp[fv,hd]
theorem zGp (c:UInt8) (h:isD c=true):dV c≤9:=by
 simp[isD]at h;unfold dV;omega
theorem zKq:∀(k:Nat) (t:List UInt8),fv k t<10 ^ k
 | 0,_=>by simp[fv]
 | k+1,[]=>by simp[fv];exact Nat.pow_pos (by omega)
 | k+1,c::r=>by
   unfold fv;split
   · rename_i hd;have h1:=zKq k r;have h2:=zGp c hd;have h3:dV c*10 ^ k≤9*10 ^ k:=Nat.mul_le_mul_right _ h2;rw[Nat.pow_succ];omega
   · exact Nat.pow_pos (by omega)
theorem xZ:∀(k a:Nat),yL (List.replicate k 48) a=a*10 ^ k
 | 0,a=>by simp[yL]
 | k+1,a=>by show yL (List.replicate k 48) (10*a+dV 48)=_;rw[xZ k,Nat.pow_succ];have:dV 48=0:=rfl;rw[this,Nat.add_zero,Nat.mul_comm 10 a,Nat.mul_assoc,Nat.mul_comm 10]
theorem zBR:∀(k:Nat) (t:List UInt8) (a:Nat),yL ((t.takeWhile isD++List.replicate k 48).take k) a=a*10 ^ k+fv k t
 | 0,t,a=>by simp[yL,fv]
 | k+1,[],a=>by rw[List.takeWhile_nil,List.nil_append,List.take_of_length_le (by simp),xZ];simp[fv]
 | k+1,c::r,a=>by
   by_cases hd:isD c=true
   · rw[List.takeWhile_cons_of_pos hd];show yL ((r.takeWhile isD++List.replicate (k+1) 48).take k) (10*a+dV c)=_;have e:(r.takeWhile isD++List.replicate (k+1) 48).take k=(r.takeWhile isD++List.replicate k 48).take k:=by rw[List.replicate_succ',←List.append_assoc,List.take_append_of_le_length (by simp)]
     rw[e,zBR k r];simp only[fv,if_pos hd,Nat.pow_succ];rw[Nat.add_mul,Nat.mul_comm 10 a,Nat.mul_assoc,Nat.mul_comm 10];omega
   · rw[List.takeWhile_cons_of_neg hd,List.nil_append,List.take_of_length_le (by simp),xZ];simp[fv,hd]
theorem zDc:∀(l:List UInt8) (n:Nat),(∀c∈l,dV c≤9)→n≤vE→wF l n=min (yL l n) vE
 | [],n,_,h=>by simp[wF,yL];omega
 | c::r,n,hl,h=>by
   have hc:=hl c List.mem_cons_self;unfold wF;have hm:vE=999999999999999999:=rfl;split
   · rename_i h1;have h2:vE<10*n+dV c:=by omega
     have h3:=zCK r (10*n+dV c);show vE=min (yL r (10*n+dV c)) vE;omega
   · exact zDc r _ (fun x hx=>hl x (List.mem_cons_of_mem _ hx)) (by omega)
theorem xL {p:UInt8→Bool}:∀(l:List UInt8) (c:UInt8),c∈l.takeWhile p→p c=true
 | [],c,h=>by simp at h
 | x::r,c,h=>by
   by_cases hx:p x=true
   · rw[List.takeWhile_cons_of_pos hx]at h;rcases List.mem_cons.1 h with rfl | h
     · exact hx
     · exact xL r c h
   · rw[List.takeWhile_cons_of_neg hx]at h;cases h
theorem zFl (r:List UInt8):zIL r=vR r:=by
 unfold zIL vR;rw[zHQ r 0 (by omega)];have hm:vE=999999999999999999:=rfl
 have hall:∀c∈r.takeWhile isD++(xU r++List.replicate 6 48).take 6,dV c≤9:=by
  intro c hc;rcases List.mem_append.1 hc with h | h
  · exact zGp c (xL _ _ h)
  · rcases List.mem_append.1 (List.mem_of_mem_take h) with h | h
    · unfold xU at h;split at h
      · exact zGp c (xL _ _ h)
      · cases h
    · rw[List.eq_of_mem_replicate h];decide
 rw[zDc _ _ hall (by omega)]
 have hv:yL (r.takeWhile isD++(xU r++List.replicate 6 48).take 6) 0=yL (r.takeWhile isD) 0*10 ^ 6+(match zO0 (r.dropWhile isD) with | some t=>fv 6 t | none=>0):=by
  show List.foldl _ 0 _=_;rw[List.foldl_append];show yL _ (yL _ 0)=_;unfold xU
  cases zO0 (r.dropWhile isD) with
  | some t=>exact zBR 6 t _
  | none=>have:=zBR 6 [] (yL (r.takeWhile isD) 0);simpa [fv] using this
 rw[hv];simp only
 cases zO0 (r.dropWhile isD) with
 | some t=>have h1:=zGg t 6 (min (min (yL (r.takeWhile isD) 0) 1000000000000*1000000) 1000000000000000000);have h2:zBS 6=100000:=rfl;rw[h2]at h1;simp only[zAp,h1];have h3:=zKq 6 t;omega
 | none=>simp only[zAp];omega
theorem zER (l:List UInt8):zGW l=xH l:=by
 unfold zGW xH;rw[zFA];simp only[zFl];by_cases h:(l.takeWhile zAd).count 45 % 2=1 <;> simp[h]
theorem zAg (l:List UInt8):vR l≤vE:=by unfold vR;exact Nat.min_le_right _ _
theorem zJR (l:List UInt8):-(vE:Int)≤xH l∧xH l≤vE:=by
 have:=zAg (zW0 l false).2;unfold xH;split <;> omega
end Go.Proofs.YtgmaamnofhmecaaGreatDoor
