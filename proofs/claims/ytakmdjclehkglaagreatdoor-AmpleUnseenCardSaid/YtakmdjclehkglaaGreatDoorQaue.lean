/- Parts. -/
import Derived.Test.YtakmdjclehkglaaGreatDoorQaud
import Derived.Test.YtakmdjclehkglaaGreatDoorChecked
set_option linter.all false
set_option maxRecDepth 100000
section
namespace o
open Go
structure dN where
 aO:Int
 U:Int
 kind:Int
structure Cell where
 sort:Int
 wN:Int
 place:Int
 aO:Int
 U:Int
 kind:Int
structure wZ where
 vars:List Int
 aw:List Int
 insts:List Int
 cells:Int
 aO:List Int
 U:List Int
def kindOf(k:Int):Int:=if k=0 then 0 else k+1
def e7(sc aO U:Int)(s:C_ Scalar):dN:=if sc=0 then ⟨aO,U,0⟩ else ⟨0,size sc s,sc+1⟩
theorem yU(v:Var)(s:C_ Scalar):e7 v.scalar v.aO v.U s=⟨(bounds v s).1,(bounds v s).2,kindOf v.scalar⟩:=by
 unfold e7 bounds kindOf;by_cases h:v.scalar=0
 .rw[if_pos h,if_pos h,if_pos h]
 .rw[if_neg h,if_neg h,if_neg h]
def Aj(s:C_ Scalar)(v:Var):C_ dN:=List.replicate (cells v s).toNat (e7 v.scalar v.aO v.U s)
def kG(s:C_ Scalar)(c:dv):dN:=e7 c.scalar (min c.aO 0) (max c.U 0) s
def na(s:C_ Scalar)(c:dv):C_ dN:=⟨0,c.cap,0⟩ :: List.replicate c.cap.toNat (kG s c)
def uF(s:C_ Scalar)(p:dz):C_ dN:=⟨0,p.b8 - 1,0⟩ :: p.vars.map fun v=>e7 v.scalar v.aO v.U s
def lN(m:Model)(x:cZ):C_ dN:=match nth m.procs x.proc with | some p=>uF m.scalars p | none=>[]
def ft(sort wN:Int):C_ dN->Nat->C_ Cell
 | [],_=>[]
 | b :: r,k=>⟨sort,wN,k,b.aO,b.U,b.kind⟩ :: ft sort wN r (k+1)
def cellsOf(sort:Int):C_ (C_ dN)->Nat->C_ Cell
 | [],_=>[]
 | l :: r,i=>ft sort i l 0++cellsOf sort r (i+1)
def total(ls:C_ (C_ dN)):Nat:=(ls.map List.length).sum
def hW(n:Nat):C_ (C_ dN)->C_ Int
 | []=>[]
 | l :: r=>(n:Int) :: hW (n+l.length) r
def cO(m:Model):C_ (C_ dN):=m.vars.map (Aj m.scalars)
def dr(m:Model):C_ (C_ dN):=m.aw.map (na m.scalars)
def fq(m:Model):C_ (C_ dN):=(insts m).map (lN m)
def bX(m:Model):C_ Cell:=cellsOf 1 (cO m) 0++cellsOf 2 (dr m) 0++cellsOf 3 (fq m) 0
def zM(V C c5:C_ Int)(cs:C_ Cell):wZ:=⟨V,C,c5,cs.length,cs.map (·.aO),cs.map (·.U)⟩
def layout(m:Model):wZ:=zM (hW 0 (cO m)) (hW (total (cO m)) (dr m)) (hW (total (cO m)+total (dr m)) (fq m)) (bX m)
def PU:wZ:=⟨[],[],[],0,[],[]⟩
def lay(m:Model):wZ:=if (check m).cA=0 then layout m else PU
theorem uw(s w:Int):∀(l:C_ dN) (k:Nat),(ft s w l k).length=l.length
 | [],_=>rfl
 | _ :: r,k=>by simp[ft,uw s w r]
theorem Pv(s w:Int)(b:dN):∀(l:C_ dN) (k:Nat),ft s w (l++[b]) k=ft s w l k++[⟨s,w,(k+l.length:Nat),b.aO,b.U,b.kind⟩]
 | [],k=>by simp[ft]
 | x :: r,k=>by
  simp only[List.cons_append,ft,Pv s w b r,List.length_cons];rw[show k+1+r.length=k+(r.length+1) from by omega]
theorem alu{s w:Int}{l:C_ dN}{k:Nat}(h:k<l.length):ft s w (l.take (k+1)) 0=ft s w (l.take k) 0++[⟨s,w,k,l[k].aO,l[k].U,l[k].kind⟩]:=by
 rw[List.take_succ_eq_append_getElem h,Pv];simp[List.length_take,Nat.min_eq_left (Nat.le_of_lt h)]
theorem kF(s:Int):∀(ls:C_ (C_ dN)) (i:Nat),(cellsOf s ls i).length=total ls
 | [],_=>rfl
 | l :: r,i=>by simp[cellsOf,uw,kF s r,total]
theorem yY(s:Int)(x:C_ dN):∀(ls:C_ (C_ dN)) (i:Nat),cellsOf s (ls++[x]) i=cellsOf s ls i++ft s (i+ls.length:Nat) x 0
 | [],i=>by simp[cellsOf]
 | l :: r,i=>by
  simp only[List.cons_append,cellsOf,yY s x r,List.length_cons,List.append_assoc];rw[show i+1+r.length=i+(r.length+1) from by omega]
theorem aql(ls:C_ (C_ dN))(x:C_ dN):total (ls++[x])=total ls+x.length:=by simp[total]
theorem KR(x:C_ dN):∀(ls:C_ (C_ dN)) (n:Nat),hW n (ls++[x])=hW n ls++[((n+total ls:Nat):Int)]
 | [],n=>by simp[hW,total]
 | l :: r,n=>by
  simp only[List.cons_append,hW,KR x r,total,List.map_cons,List.sum_cons];rw[show n+l.length+(r.map List.length).sum=n+(l.length+(r.map List.length).sum) from by omega]
theorem tw(n:Nat):∀(ls:C_ (C_ dN)),(hW n ls).length=ls.length:=by
 intro ls
 induction ls generalizing n with
 | nil=>rfl
 | cons l r eS=>simp[hW,eS]
theorem EW(m:Model):(bX m).length=total (cO m)+total (dr m)+total (fq m):=by simp[bX,kF,Nat.add_assoc]
def iU(s:Int):C_ Cell->Nat->C_ Int
 | [],_=>[]
 | x :: r,i=>(if x.place=0/\x.sort=s then [(i:Int)] else [])++iU s r (i+1)
theorem DI(s:Int):∀(a b:C_ Cell) (i:Nat),iU s (a++b) i=iU s a i++iU s b (i+a.length)
 | [],b,i=>by simp[iU]
 | x :: r,b,i=>by
  simp only[List.cons_append,iU,DI s r b,List.append_assoc,List.length_cons];rw[show i+1+r.length=i+(r.length+1) from by omega]
theorem Wh(s iu w:Int):∀(l:C_ dN) (k i:Nat),0<k->iU s (ft iu w l k) i=[]
 | [],_,_,_=>rfl
 | b :: r,k,i,h=>by
  simp only[ft,iU];rw[if_neg (by simp;omega),Wh s iu w r (k+1) (i+1) (by omega)];rfl
theorem HM(s:Int):∀(ls:C_ (C_ dN)) (i n:Nat),(∀l∈ls,l≠[])->iU s (cellsOf s ls i) n=hW n ls
 | [],_,_,_=>rfl
 | [] :: r,i,n,h=>absurd rfl (h [] (by simp))
 | (b :: l) :: r,i,n,h=>by
  simp only[cellsOf,ft,List.cons_append,iU,DI];rw[if_pos (by simp),Wh s s i l 1 (n+1) (by omega),HM s r (i+1) _ (fun l aF=>h l (by simp[aF]))];simp only[List.nil_append,hW,uw,List.singleton_append,List.length_cons];rw[show n+1+l.length=n+(l.length+1) from by omega]
theorem y9(s iu:Int)(an:s≠iu):∀(ls:C_ (C_ dN)) (i n:Nat),iU s (cellsOf iu ls i) n=[]
 | [],_,_=>rfl
 | l :: r,i,n=>by
  have key:∀(l:C_ dN) (k n:Nat),iU s (ft iu i l k) n=[]:=by
   intro l
   induction l with
   | nil=>intro k n;rfl
   | cons b r eS =>
    intro k n;simp only[ft,iU];rw[if_neg (by simp;exact fun _=>Ne.symm an),eS];rfl
  simp only[cellsOf,DI,key,y9 s iu an r,List.append_nil]
structure C5(v:Var)(s:List Scalar):Prop where
 sc:v.scalar=0\/size v.scalar s≠0
 e4:v.over=0\/size v.over s≠0
 Kg:v.scalar=0->narrow v.aO v.U=true
 aO:(bounds v s).1<=v.init
 U:v.init<=(bounds v s).2
structure CK(c:dv)(s:List Scalar):Prop where
 sc:c.scalar=0\/size c.scalar s≠0
 cap:1<=c.cap/\c.cap<=4
 Kg:c.scalar=0->narrow c.aO c.U=true
structure acS(p:dz)(s:List Scalar):Prop where
 over:0<=p.over/\p.over<=s.length
 b8:1<=p.b8/\p.b8<=12
 gU:p.vars.length<=4/\p.cL.length<=12
 var:∀v∈p.vars,C5 v s
structure eL(m:Model):Prop where
 gU:m.scalars.length<=2/\m.vars.length<=12/\m.aw.length<=4
 procs:m.procs.length<=6
 var:∀v∈m.vars,C5 v m.scalars
 chan:∀c∈m.aw,CK c m.scalars
 proc:∀p∈m.procs,acS p m.scalars
 insts:(pieces m).1<=12
 cells:(pieces m).2.2<=64
theorem Q5{k:Int}{s:C_ Scalar}(h:¬there k s=false):k=0\/size k s≠0:=by
 unfold there at h;by_cases af:k=0
 .exact .inl af
 .exact .inr (by simpa[af] using h)
theorem ab3{l:C_ Var}{s:C_ Scalar}{i:Nat}(U:i<l.length)(h:py l s i=0):C5 l[i] s:=by
 unfold py at h;rw[List.getElem?_eq_getElem U] at h;simp only at h;by_cases h1:there l[i].scalar s=false\/there l[i].over s=false
 .rw[if_pos h1] at h;cases h
 rw[if_neg h1] at h;by_cases I:(l[i].scalar=0/\narrow l[i].aO l[i].U=false)\/l[i].init<(bounds l[i] s).1\/l[i].init > (bounds l[i] s).2
 .rw[if_pos I] at h;cases h
 refine⟨Q5 fun e=>h1 (.inl e),Q5 fun e=>h1 (.inr e),fun af=>?_,?_,?_⟩
 .cases ay:narrow l[i].aO l[i].U with
  | true=>rfl
  | false=>exact absurd (.inl ⟨af,ay⟩) I
 .exact Int.not_lt.1 fun e=>I (.inr (.inl e))
 .exact Int.not_lt.1 fun e=>I (.inr (.inr e))
theorem aew{l:C_ dv}{s:C_ Scalar}{i:Nat}(U:i<l.length)(h:o7 l s i=0):CK l[i] s:=by
 unfold o7 at h;rw[List.getElem?_eq_getElem U] at h;simp only at h;by_cases h1:there l[i].scalar s=false
 .rw[if_pos h1] at h;cases h
 rw[if_neg h1] at h;by_cases I:l[i].cap<1\/l[i].cap > 4\/(l[i].scalar=0/\narrow l[i].aO l[i].U=false)
 .rw[if_pos I] at h;cases h
 refine⟨Q5 h1,by omega,fun af=>?_⟩;cases ay:narrow l[i].aO l[i].U with
 | true=>rfl
 | false=>exact absurd (.inr (.inr ⟨af,ay⟩)) I
theorem MG{fC:Int}{fR:Nat->ByteArray}{mo:Nat->Int}{i:Nat}(h:err fC fR mo i=0):mo i=0:=by
 unfold err at h;split at h
 .cases h
 .split at h
  .cases h
  .split at h
   .cases h
   .exact h
theorem ir{m:Model}(h:(check m).cA=0):eL m:=by
 unfold check at h;by_cases a6:(data m).cA≠0
 .rw[if_pos a6] at h;exact absurd h a6
 rw[if_neg a6] at h;have a6:(data m).cA=0:=by simpa using a6
 by_cases ar:(me m).cA≠0
 .rw[if_pos ar] at h;exact absurd h ar
 have ar:(me m).cA=0:=by simpa using ar
 obtain⟨h1,I,ab⟩:=Vt a6;obtain⟨dZ,eK,e5⟩:=Kq ar;refine⟨G6 a6,?_,fun v aG=>?_,fun c ah=>?_,fun p ajZ=>?_,eK,e5⟩
 .apply Classical.byContradiction;intro ay
  have:=HC (i:=6) (by omega) (dZ 6 (by omega))
  omega
 .obtain⟨i,U,rfl⟩:=List.mem_iff_getElem.1 aG;exact ab3 U (MG (K4 (I i U)))
 .obtain⟨i,U,rfl⟩:=List.mem_iff_getElem.1 ah;exact aew U (MG (GU (ab i U)))
 .obtain⟨i,U,rfl⟩:=List.mem_iff_getElem.1 ajZ;obtain⟨_,cC,_,_⟩:=Bd U (dZ i U);have an:(hi m i).scalars=m.scalars:=by
   unfold hi;split<;>rfl
  obtain⟨f1,f2,f3,f4,_⟩:=P9 cC;have f5:(vars m.procs[i].vars m.scalars 4).2=0:=by
   apply Classical.byContradiction;intro ay;unfold lu at f4;rw[an,if_pos ay] at f4;exact ay f4
  unfold whole at f3;rw[an] at f3;split at f3
  .cases f3
  .split at f3
   .cases f3
   .split at f3
    .cases f3
    .exact⟨by omega,by omega,⟨f1,f2⟩,fun v aG=>by
      obtain⟨j,aE,rfl⟩:=List.mem_iff_getElem.1 aG;exact ab3 aE (MG (vu f5 j aE))⟩
theorem ZX{aO U:Int}(h:narrow aO U=true) : -1048576<=aO/\aO<=U/\U<=1048576/\U - aO<256:=by
 unfold narrow at h;exact of_decide_eq_true h
theorem aep{v:Var}{s:C_ Scalar}(h:C5 v s):1<=cells v s:=by
 have:=size_le v.over s
 have:=h.e4
 unfold cells;split<;>omega
theorem Cy(s:C_ Scalar)(v:Var):(Aj s v).length=(cells v s).toNat:=by simp[Aj]
theorem vj(s:C_ Scalar)(c:dv):(na s c).length=1+c.cap.toNat:=by simp[na];omega
theorem zE{m:Model}{x:cZ}(h:x.of m):∃(i:Nat) (U:i<m.procs.length),x.proc=i/\lN m x=uF m.scalars m.procs[i]:=by
 refine⟨x.proc.toNat,by have:=h.U;have:=h.aO;omega,by have:=h.aO;omega,?_⟩;unfold lN;rw[ja h.aO (by exact_mod_cast h.U)]
theorem aqF{m:Model}(h:eL m):∀l∈cO m,l≠[]:=fun l aF=>by
 obtain⟨v,aG,rfl⟩:=List.mem_map.1 aF
 have:=aep (h.var v aG)
 intro e
 have:=congrArg List.length e
 rw[Cy] at this;simp at this;omega
theorem ad3(m:Model):∀l∈dr m,l≠[]:=fun l aF=>by
 obtain⟨v,aG,rfl⟩:=List.mem_map.1 aF;simp[na]
theorem akP(m:Model):∀l∈fq m,l≠[]:=fun l aF=>by
 obtain⟨v,aG,rfl⟩:=List.mem_map.1 aF;obtain⟨i,U,_,e⟩:=zE (rW v aG);rw[e];simp[uF]
theorem agE{m:Model}(h:eL m):iU 1 (bX m) 0=hW 0 (cO m)/\iU 2 (bX m) 0=hW (total (cO m)) (dr m)/\iU 3 (bX m) 0=hW (total (cO m)+total (dr m)) (fq m):=by
 unfold bX;simp only[DI,kF,List.length_append,Nat.zero_add];refine⟨?_,?_,?_⟩
 .rw[HM 1 _ 0 0 (aqF h),y9 1 2 (by decide),y9 1 3 (by decide)];simp
 .rw[HM 2 _ 0 _ (ad3 m),y9 2 1 (by decide),y9 2 3 (by decide)];simp
 .rw[HM 3 _ 0 _ (akP m),y9 3 1 (by decide),y9 3 2 (by decide)];simp
theorem QX(x:Int)(l:C_ Int):iK (x :: l)=x+iK l:=by
 have key:∀(l:C_ Int) (a:Int),l.foldl (· + ·) a=a+l.foldl (· + ·) 0:=by
  intro l
  induction l with
  | nil=>intro a;simp
  | cons y r eS =>
   intro a;simp only[List.foldl_cons];rw[eS (a+y),eS (0+y)];omega
 unfold iK;rw[List.foldl_cons,key];omega
theorem FO(l:C_ dN)(r:C_ (C_ dN)):total (l :: r)=l.length+total r:=by simp[total]
theorem FN(a b:C_ (C_ dN)):total (a++b)=total a+total b:=by simp[total]
theorem abU(s:C_ Scalar):∀l:C_ Var,(total (l.map (Aj s)):Int)=iK (l.map fun v=>cells v s)
 | []=>rfl
 | v :: r=>by
  rw[List.map_cons,FO,List.map_cons,QX,<-abU s r,Cy]
  have:=(sH v s).1
  omega
theorem abR(s:C_ Scalar):∀l:C_ dv,(∀c∈l,CK c s)->(total (l.map (na s)):Int)=iK (l.map qA)
 | [],_=>rfl
 | c :: r,h=>by
  rw[List.map_cons,FO,List.map_cons,QX,<-abR s r (fun x ag=>h x (by simp[ag])),vj]
  have:=(h c (by simp)).cap
  unfold qA;omega
theorem zX(s:C_ Scalar)(p:dz):(uF s p).length=1+p.vars.length:=by simp[uF];omega
theorem afu(m:Model)(i:Nat)(p:dz)(h:0<=p.over):(((jb i p).length+elems m p:Nat):Int)=kU m p:=by
 unfold jb kU elems;by_cases af:p.over=0
 .rw[if_pos af,if_pos af,gX (.inl (by omega))];rfl
 .rw[if_neg af,if_neg af];unfold size;by_cases h1:p.over - 1<m.scalars.length
  .rw[ja (by omega) h1,List.getElem?_eq_getElem (by omega)];simp only;by_cases I:(m.scalars[(p.over - 1).toNat]'(by omega)).size<1\/4<(m.scalars[(p.over - 1).toNat]'(by omega)).size
   .rw[if_pos I,if_neg (by omega)];rfl
   .rw[if_neg I,if_pos (by omega)];simp only[List.length_nil];omega
  .rw[gX (.inr (by omega)),List.getElem?_eq_none (by omega)];rfl
theorem abS(m:Model):∀(l:C_ dz) (i:Nat),m.procs.drop i=l->(∀p∈l,0<=p.over)->(total ((jD m l i).map (lN m)):Int)=iK (l.map fun p=>kU m p*(1+p.vars.length))
 | [],_,_,_=>rfl
 | p :: r,i,a6,h=>by
  have U:i<m.procs.length:=by
   apply Classical.byContradiction;intro ay;rw[List.drop_eq_nil_of_le (by omega)] at a6;cases a6
  rw[List.drop_eq_getElem_cons U] at a6;injection a6 with ar aL
  have ak:∀x:cZ,x.proc=i->(lN m x).length=1+p.vars.length:=fun x ag=>by
   unfold lN;rw[ag,ja (by omega) (by omega)];simp only[Int.toNat_natCast];rw[ar,zX]
  have dA:∀l:C_ cZ,(∀x∈l,x.proc=i)->total (l.map (lN m))=l.length*(1+p.vars.length):=by
   intro l
   induction l with
   | nil=>intro _;simp[total]
   | cons x r eS =>
    intro h;rw[List.map_cons,FO,eS (fun y bS=>h y (by simp[bS])),ak x (h x (by simp)),List.length_cons,Nat.add_mul];omega
  have h1:∀x∈jb i p++jF i (elems m p),x.proc=i:=fun x ag=>by
   rcases List.mem_append.1 ag with ag | ag
   .unfold jb at ag;split at ag
    .rw[List.mem_singleton] at ag;rw[ag]
    .cases ag
   .unfold jF at ag;obtain⟨k,_,rfl⟩:=List.mem_map.1 ag;rfl
  rw[jD,List.map_append,FN,dA _ h1,List.map_cons,QX,<-abS m r (i+1) aL (fun x ag=>h x (by simp[ag])),<-afu m i p (h p (by simp))];rw[List.length_append,show(jF i (elems m p)).length=elems m p from by simp[jF]];simp only[Int.natCast_add,Int.natCast_mul];rfl
theorem Jk{m:Model}(h:eL m):((bX m).length:Int)=(pieces m).2.2:=by
 rw[EW];have bt:=abU m.scalars m.vars;have aI:=abR m.scalars m.aw h.chan;have ba:=abS m m.procs 0 (by simp) (fun p ar=>(h.proc p ar).over.1);unfold pieces;simp only;rw[<-bt,<-aI,<-ba];simp only[cO,dr,fq,insts];omega
def Wd(l:wZ)(s:Int):C_ Int:=if s=3 then l.insts else if s=2 then l.aw else l.vars
structure arj(m:Model)(c:Nat)(x:Cell):Prop where
 sort:1<=x.sort/\x.sort<=3
 wN:0<=x.wN/\x.wN<(Wd (layout m) x.sort).length
 at_:(Wd (layout m) x.sort)[x.wN.toNat]? = some ((c:Int) - x.place)
 place:0<=x.place/\x.place<=c
 le:x.aO<=x.U
 chan:x.sort=2->x.aO<=0/\0<=x.U
theorem aly{m:Model}{c:Nat}(h1:total (cO m)<=c)(h:c<total (cO m)+total (dr m)):(bX m)[c]? = (cellsOf 2 (dr m) 0)[c - total (cO m)]? := by
 unfold bX;rw[List.getElem?_append_left (by rw[List.length_append,kF,kF];omega),List.getElem?_append_right (by rw[kF];exact h1),kF]
theorem alA{m:Model}{c:Nat}(h1:total (cO m)+total (dr m)<=c):(bX m)[c]? = (cellsOf 3 (fq m) 0)[c - (total (cO m)+total (dr m))]? := by
 unfold bX;rw[List.getElem?_append_right (by rw[List.length_append,kF,kF];exact h1),List.length_append,kF,kF]
theorem FP{ls:C_ (C_ dN)}{i:Nat}(h:i<ls.length):total (ls.take (i+1))=total (ls.take i)+ls[i].length:=by
 rw[List.take_succ_eq_append_getElem h,aql]
theorem aqm(ls:C_ (C_ dN))(i:Nat):total (ls.take i)<=total ls:=by
 have e:total ls=total (ls.take i)+total (ls.drop i):=by rw[<-FN,List.take_append_drop]
 omega
theorem Q2{ls:C_ (C_ dN)}{i:Nat}(h:i<ls.length):total (ls.take i)+ls[i].length<=total ls:=by
 rw[<-FP h];exact aqm _ _
end o
end
section
namespace bb
open Go
def uN:H_ TypeInfo->Nat | some i=>i.size | none=>0
def L1:H_ TypeInfo->Nat | some i=>i.bytes | none=>0
def acw:H_ B_->B_ | some v=>v | none=>undef
def F1:H_ TypeInfo->B_ | some i=>acw i.zero | none=>undef
def Mh:B_->C_ B_ | .agg cs=>cs.toList | v=>[v]
def Je:H_ TypeDesc->Bool | some (.struct _)=>true | some (.array _ _)=>true | _=>false
def Da{α:Type}(d:α):C_ α->Nat->α
 | [],_=>d
 | x :: _,0=>x
 | _ :: r,n+1=>Da d r n
def Z5:Field:={ name := "",type:=0,offset:=0,embedded:=false,tag := "",pkgPath := "",byteOffset:=0 }
def HV:H_ TypeDesc->C_ Field | some (.struct fM)=>fM.toList | _=>[]
def Kn(d:H_ TypeDesc)(f:Nat):Nat:=(Da Z5 (HV d) f).offset
def MW(d:H_ TypeDesc)(f:Nat):F_:=(Da Z5 (HV d) f).type
def qE:H_ TypeDesc->F_ | some (.slice e)=>e | _=>0
def U2(P:D_)(l:C_ G_)(cz:C_ F_):Callee->Ins
 | .value (.func f)=>.c (.fn f l)
 | .value (.tmp x)=>.c (.val (.tmp x) l)
 | .invoke x m=>.c (.inv x m l)
 | .builtin .append=>(match l,cz with | [s,x],t :: _=>.e (.app t (qE (P.underlying t)) (uN P.types[qE (P.underlying t)]?) (L1 P.types[qE (P.underlying t)]?) s x) | _,_=>.p (.mM (.tmp 0)))
 | _=>(match l with | [x]=>.p (.zN x) | _=>.p (.mM (.tmp 0)))
def P5(P:D_):C_ Field->C_ (Nat×Nat)
 | []=>[]
 | f :: r=>(f.offset,uN P.types[f.type]?) :: P5 P r
def LO:C_ B_->C_ B_->C_ B_
 | [],r=>r
 | x :: l,r=>x :: LO l r
def QB:Nat->C_ B_->C_ B_
 | 0,_=>[]
 | n+1,l=>LO l (QB n l)
def YO(P:D_):Op->Ins
 | .move x=>.p (.mM x)
 | .assign x=>.p (.mM x)
 | .pick c a b=>.p (.pick c a b)
 | .binOp op t x y _=>.p (.bin op t x y)
 | .unOp op _ x=>.p (.un op x)
 | .extract x i=>.p (.ext x i)
 | .nilCheck x=>.p (.e3 x)
 | .makeFunc (.func f) a b=>.p (.uz f a.toList b.toList)
 | .fieldAddr s x f=>.p (.jh (Kn (P.underlying s) f) x)
 | .indexAddr t x i=>.p (.mH (uN P.types[qE (P.underlying t)]?) x i)
 | .slice t x l h m=>.p (.hl (uN P.types[qE (P.underlying t)]?) x l h m)
 | .field t x f=>bif Je (P.underlying (MW (P.underlying t) f)) then .p (.Bi (Kn (P.underlying t) f) (uN P.types[MW (P.underlying t) f]?) x) else .p (.gh (Kn (P.underlying t) f) x)
 | .build t da=>.p (.gg (Mh (F1 P.types[t]?)) (P5 P (HV (P.underlying t))) da.toList)
 | .buildSlice t n da=>.e (.fZ (qE (P.underlying t)) n (uN P.types[qE (P.underlying t)]?) (QB n (Mh (F1 P.types[qE (P.underlying t)]?))) da.toList)
 | .makeSlice t l c=>.e (.uA (qE (P.underlying t)) (uN P.types[qE (P.underlying t)]?) (L1 P.types[qE (P.underlying t)]?) (F1 P.types[qE (P.underlying t)]?) l c)
 | .makeInterface t x=>.p (.zQ t x)
 | .load t x=>bif Je (P.underlying t) then .r (.dY (uN P.types[t]?) x) else .r (.ld x)
 | .store t x v=>bif Je (P.underlying t) then .e (.hz (uN P.types[t]?) x v) else .e (.st x v)
 | .box t x=>.e (.box t x)
 | .alloc t=>.e (.new t (F1 P.types[t]?))
 | .call c=>U2 P c.args.toList c.argTypes.toList c.callee
 | _=>.p (.mM (.tmp 0))
def Hl:C_ Oper->C_ (H_ Nat)
 | []=>[]
 | ad :: r=>ad.dst :: Hl r
def Ww(b:Bool):H_ Nat->H_ (Nat×Bool)
 | none=>none
 | some t=>some (t,b)
def Wv(ds:C_ (H_ Nat)):H_ (Nat×Bool)->H_ (Nat×Bool)
 | none=>none
 | some (j,b)=>Ww b (Da none ds j)
def KB(P:D_)(ds:C_ (H_ Nat)):C_ Oper->C_ Step
 | []=>[]
 | ad :: r=>⟨ad.dst,Wv ds ad.guard,YO P ad.op⟩ :: KB P ds r
def PG(id:Nat):C_ (Nat×eC)->H_ eC
 | []=>none
 | (i,c) :: r=>if i=id then some c else PG id r
def PL(id:Nat):C_ Nat->Bool
 | []=>false
 | x :: r=>if x=id then true else PL id r
def aaV(P:D_)(ops:C_ Oper):H_ eC->Bool->eC
 | some c,_=>c
 | none,true=>.qD (KB P (Hl ops) ops)
 | none,false=>.dk (KB P (Hl ops) ops)
def bj(P:D_)(qC:C_ Nat)(yt:C_ (Nat×eC)):Code->eC
 | .region id ops _=>aaV P ops.toList (PG id yt) (PL id qC)
 | .seq a b=>.seq (bj P qC yt a) (bj P qC yt b)
 | .cond c a b=>.cond c (bj P qC yt a) (bj P qC yt b)
 | .block id b=>.cu id (bj P qC yt b)
 | .loop b=>.loop (bj P qC yt b)
 | .exit id=>.exit id
 | .ret=>.ret
 | .scope b=>bj P qC yt b
 | _=>.skip
def bm(fn:Func):Code:=match fn.body with | some c=>c | none=>.skip
theorem adE{α:Type}(a b:α):(bif true then a else b)=a:=rfl
theorem adD{α:Type}(a b:α):(bif false then a else b)=b:=rfl
section
variable{P:Program}{w:World}
theorem AE5{f:E_}{L:mq}{c:eC}(hm:P.follows .mixedOrders=true)(ah:k6 P f=some L)(e:L.code=c){args:C_ B_}{R:B_->A_->Prop}(aV:args.length<=L.n)(h:dO P c (qG L.res R ⟨⟩) (hQ args 0) w ⟨⟩):a7 P f args.toArray w R:=by
 subst e;exact _h hm ah aV h
theorem _m{f:E_}{L:mq}{c:eC}(hm:P.follows .mixedOrders=true)(ah:k6 P f=some L)(e:L.code=c){args:C_ B_}{R:B_->A_->Prop}{Z:C_ PanicEntry->A_->Prop}(aV:args.length<=L.n)(h:dO P c (vo L.res R Z ⟨⟩) (hQ args 0) w ⟨⟩):qt P f args.toArray w R Z:=by
 subst e;exact AA7 hm ah aV h
end
end bb
end
section
namespace Go.Proofs.R
open Go bb Go.Proofs
abbrev T.z:F_:=0
abbrev T.a:F_:=3
abbrev T.n:F_:=4
abbrev T.mW:F_:=5
abbrev T.ad:F_:=9
abbrev T.as:F_:=20
abbrev T.AW:F_:=21
abbrev T.ru:F_:=22
abbrev T.sx:F_:=23
abbrev T.GJ:F_:=24
abbrev T.UH:F_:=25
abbrev T.yR:F_:=26
abbrev T.g:F_:=28
abbrev T.b:F_:=29
abbrev T.ap:F_:=34
abbrev T.c:F_:=36
abbrev T.p:F_:=39
abbrev T.i:F_:=42
abbrev T.rr:F_:=43
abbrev T.h:F_:=47
abbrev T.x:F_:=50
abbrev T.UI:F_:=52
abbrev T.d:F_:=55
abbrev T.u:F_:=57
abbrev T.oz:F_:=58
abbrev T.k:F_:=60
abbrev T.UJ:F_:=61
abbrev T.l:F_:=63
abbrev T.e:F_:=65
abbrev T.f:F_:=72
abbrev T.y:F_:=74
abbrev T.m:F_:=76
abbrev T.qw:F_:=101
abbrev T.AR:F_:=102
abbrev T.a9:F_:=103
abbrev T.AX:F_:=105
abbrev T.o1:F_:=111
abbrev T.gl:F_:=114
abbrev T.UK:F_:=121
abbrev T.iP:F_:=126
abbrev T.qx:F_:=133
abbrev T.t:F_:=140
abbrev T.v:F_:=144
abbrev T.at5:F_:=148
abbrev T.s8:F_:=151
abbrev T.arK:F_:=155
abbrev T.w:F_:=161
abbrev T.a0:F_:=165
abbrev T.pM:F_:=172
abbrev T.tI:F_:=175
abbrev T.arL:F_:=179
abbrev T.j:F_:=181
abbrev T.r:F_:=183
abbrev T.gM:F_:=186
abbrev T.s:F_:=190
abbrev T.df:F_:=202
abbrev T.ac:F_:=221
abbrev T.arM:F_:=238
abbrev T.a2:F_:=239
abbrev T.mX:F_:=242
abbrev T.a3:F_:=247
abbrev T.kD:F_:=252
abbrev T.a4:F_:=263
abbrev T.bi:F_:=265
abbrev T.a5:F_:=268
abbrev T.sA:F_:=307
abbrev T.sB:F_:=308
abbrev T.am:F_:=309
abbrev T.sD:F_:=310
abbrev T.sE:F_:=311
abbrev T.AY:F_:=326
abbrev F.Fb:E_:=7
abbrev F.ho:E_:=8
abbrev F.Fc:E_:=10
abbrev F.iR:E_:=12
abbrev F.E7:E_:=18
abbrev F.JX:E_:=19
abbrev F.J7:E_:=20
abbrev F.Kb:E_:=21
abbrev F.oz:E_:=22
abbrev F.k5:E_:=23
abbrev F.c:E_:=24
abbrev F.b:E_:=25
abbrev F.a:E_:=26
abbrev F.x:E_:=27
abbrev F.qB:E_:=28
abbrev F.ce:E_:=29
abbrev F.GV:E_:=30
abbrev F.ga:E_:=32
abbrev F.j:E_:=33
abbrev F.e:E_:=34
abbrev F.JV:E_:=38
abbrev F.J5:E_:=45
abbrev F.J4:E_:=46
abbrev F.J0:E_:=47
abbrev F.J1:E_:=48
abbrev F.JZ:E_:=49
abbrev F.J2:E_:=50
abbrev F.E6:E_:=51
abbrev F.E8:E_:=52
abbrev F.Kc:E_:=53
abbrev F.a0:E_:=55
abbrev F.df:E_:=56
abbrev F.a2:E_:=57
abbrev F.Dv:E_:=58
abbrev F.xq:E_:=59
abbrev F.a3:E_:=60
abbrev F.iz:E_:=61
abbrev F.cs:E_:=62
abbrev F.A9:E_:=63
abbrev F.a4:E_:=64
abbrev F.a5:E_:=65
abbrev F.y:E_:=66
abbrev F.mW:E_:=67
abbrev F.g:E_:=68
abbrev F.rr:E_:=69
abbrev F.rz:E_:=70
abbrev F.n:E_:=71
abbrev F.s:E_:=72
abbrev F.fL:E_:=73
abbrev F.G4:E_:=74
abbrev F.cX:E_:=75
abbrev F.c6:E_:=80
abbrev F.y3:E_:=81
abbrev F.JW:E_:=83
abbrev F.Jx:E_:=84
abbrev F.J8:E_:=85
abbrev F.J3:E_:=88
abbrev F.JN:E_:=89
abbrev F.JO:E_:=90
abbrev F.wk:E_:=91
abbrev F.wj:E_:=92
abbrev F.JM:E_:=93
abbrev F.E4:E_:=94
abbrev F.E5:E_:=95
abbrev F.JL:E_:=96
abbrev F.JY:E_:=97
abbrev F.Jt:E_:=98
abbrev F.Jy:E_:=99
abbrev F.J9:E_:=100
abbrev F.Ka:E_:=101
abbrev F.G8:E_:=102
abbrev F.d:E_:=103
abbrev F.G9:E_:=104
abbrev F.ad:E_:=105
abbrev F.Ha:E_:=106
abbrev F.gl:E_:=107
abbrev F.gM:E_:=108
abbrev F.Hb:E_:=109
abbrev F.Hc:E_:=110
abbrev F.Hd:E_:=111
abbrev F.Hf:E_:=112
abbrev F.z:E_:=113
abbrev F.Hg:E_:=114
abbrev F.f5:E_:=115
abbrev F.o1:E_:=116
abbrev F.pM:E_:=117
abbrev F.AW:E_:=118
abbrev F.ac:E_:=119
abbrev F.dl:E_:=120
abbrev F.Hh:E_:=121
abbrev F.f:E_:=122
abbrev F.t:E_:=123
abbrev F.Hi:E_:=124
abbrev F.Hj:E_:=125
abbrev F.Hk:E_:=126
abbrev F.qC:E_:=127
abbrev F.ds:E_:=128
abbrev F.Hm:E_:=129
abbrev F.AX:E_:=130
abbrev F.p:E_:=131
abbrev F.Hn:E_:=132
abbrev F.Ho:E_:=133
abbrev F.be:E_:=134
abbrev F.h:E_:=135
abbrev F.Hp:E_:=136
abbrev F.f6:E_:=142
abbrev F.Jz:E_:=143
abbrev F.JJ:E_:=144
abbrev F.JE:E_:=145
abbrev F.JD:E_:=146
abbrev F.E9:E_:=147
abbrev F.JK:E_:=151
abbrev F.J6:E_:=152
abbrev F.JP:E_:=153
abbrev F.E2:E_:=154
abbrev F.E3:E_:=155
abbrev F.JQ:E_:=156
abbrev F.Ju:E_:=157
abbrev F.JF:E_:=158
abbrev F.JG:E_:=159
abbrev F.JI:E_:=160
abbrev F.bi:E_:=161
abbrev F.AY:E_:=162
abbrev F.Di:E_:=163
abbrev F.mX:E_:=164
abbrev F.ru:E_:=165
abbrev F.d9:E_:=166
abbrev F.iT:E_:=167
abbrev F.Hr:E_:=168
abbrev F.o3:E_:=169
abbrev F.cK:E_:=170
abbrev F.Hs:E_:=171
abbrev F.Ht:E_:=172
abbrev F.Dk:E_:=173
abbrev F.Hu:E_:=174
abbrev F.f9:E_:=175
abbrev F.vf:E_:=176
abbrev F.Hv:E_:=177
abbrev F.Dm:E_:=178
abbrev F.mY:E_:=179
abbrev F.sx:E_:=180
abbrev F.Hw:E_:=181
abbrev F.Hx:E_:=182
abbrev F.Hy:E_:=183
abbrev F.rA:E_:=184
abbrev F.pQ:E_:=185
abbrev F.el:E_:=186
abbrev F.em:E_:=187
abbrev F.o4:E_:=188
abbrev F.u:E_:=189
abbrev F.h3:E_:=190
abbrev F.ge:E_:=191
abbrev F.jz:E_:=192
abbrev F.gc:E_:=193
abbrev F.H3:E_:=194
abbrev F.v:E_:=195
abbrev F.HA:E_:=196
abbrev F.HB:E_:=197
abbrev F.eq:E_:=198
abbrev F.tR:E_:=199
abbrev F.JC:E_:=207
abbrev F.JA:E_:=208
abbrev F.Jq:E_:=209
abbrev F.Jo:E_:=210
abbrev F.Jp:E_:=211
abbrev F.JS:E_:=215
abbrev F.JR:E_:=216
abbrev F.B4:E_:=217
abbrev F.zP:E_:=218
abbrev F.Jv:E_:=219
abbrev F.JB:E_:=220
abbrev F.E1:E_:=221
abbrev F.Jw:E_:=222
abbrev F.MX:E_:=223
abbrev F.cn:E_:=224
abbrev F.aI:E_:=225
abbrev F.ba:E_:=226
abbrev F.bG:E_:=227
abbrev F.bU:E_:=228
abbrev F.f7:E_:=229
abbrev F.c8:E_:=230
abbrev F.dQ:E_:=231
abbrev F.gm:E_:=232
abbrev F.jQ:E_:=233
abbrev F.jh:E_:=234
abbrev F.xx:E_:=235
abbrev F.y7:E_:=236
abbrev F.qw:E_:=237
abbrev F.fd:E_:=238
abbrev F.HH:E_:=239
abbrev F.HI:E_:=240
abbrev F.DJ:E_:=243
abbrev F.HJ:E_:=246
abbrev F.HK:E_:=247
abbrev F.Jr:E_:=249
abbrev F.JT:E_:=250
abbrev F.JU:E_:=251
abbrev F.JH:E_:=252
abbrev F.f8:E_:=253
abbrev F.HO:E_:=254
abbrev F.fn:E_:=255
abbrev F.Dn:E_:=256
abbrev F.bv:E_:=257
abbrev F.HP:E_:=258
abbrev F.c3:E_:=259
abbrev F.iP:E_:=260
abbrev F.HQ:E_:=261
abbrev F.qx:E_:=262
abbrev F.sA:E_:=263
abbrev F.sB:E_:=264
abbrev F.i:E_:=265
abbrev F.am:E_:=266
abbrev F.sD:E_:=267
abbrev F.sE:E_:=268
abbrev F.ap:E_:=269
abbrev F.tI:E_:=270
abbrev F.kD:E_:=271
abbrev F.HS:E_:=272
abbrev F.bJ:E_:=273
abbrev F.hC:E_:=274
abbrev F.fM:E_:=275
abbrev F.HW:E_:=288
abbrev F.HX:E_:=289
abbrev F.HY:E_:=290
abbrev F.Js:E_:=291
abbrev F.HZ:E_:=292
abbrev F.ki:E_:=293
abbrev F.l0:E_:=294
abbrev F.q:E_:=295
abbrev F.H0:E_:=296
abbrev F.H2:E_:=311
abbrev F.bo:E_:=335
abbrev F.r:E_:=336
abbrev F.bR:E_:=337
abbrev F.b0:E_:=338
abbrev F.cF:E_:=339
abbrev F.f0:E_:=340
abbrev F.f1:E_:=341
abbrev F.dx:E_:=342
abbrev F.f2:E_:=343
abbrev F.f3:E_:=344
abbrev F.as:E_:=345
abbrev F.dP:E_:=346
abbrev F.f4:E_:=347
abbrev G.alM:Nat:=0
theorem lj:Tryz.prog.follows .mixedOrders=true:=by kernel_rfl
theorem u1{f:E_}{L:mq}{args:C_ B_}{R:B_->A_->Prop}{w:A_}(ah:k6 Tryz.prog f=some L)(h:dO Tryz.prog L.code (qG L.res R ⟨⟩) (hQ args 0) w ⟨⟩)(aV:args.length<=L.n:=by exact Nat.le_of_ble_eq_true rfl):a7 Tryz.prog f args.toArray w R:=_h lj ah aV h
theorem AP{c d:eC}(h:∀X:eC->Prop,X d->X c:=by
 intro X q
 conv=>arg 1;whnf
 try simp only[bj,aaV,KB,YO,U2,Wv,Ww,Hl,PL,PG,uN,L1,F1,acw,Mh,Je,Da,HV,Kn,MW,qE,P5,LO,QB,adE,adD,Tryz.underlying3,Tryz.underlying4,Tryz.underlying9,Tryz.underlying22,Tryz.underlying23,Tryz.underlying24,Tryz.underlying25,Tryz.underlying26,Tryz.underlying28,Tryz.underlying29,Tryz.underlying34,Tryz.underlying36,Tryz.underlying39,Tryz.underlying42,Tryz.underlying43,Tryz.underlying47,Tryz.underlying50,Tryz.underlying55,Tryz.underlying57,Tryz.underlying58,Tryz.underlying60,Tryz.underlying61,Tryz.underlying63,Tryz.underlying65,Tryz.underlying72,Tryz.underlying74,Tryz.underlying76,Tryz.underlying80,Tryz.underlying101,Tryz.underlying111,Tryz.underlying114,Tryz.underlying121,Tryz.underlying126,Tryz.underlying130,Tryz.underlying133,Tryz.underlying140,Tryz.underlying144,Tryz.underlying148,Tryz.underlying151,Tryz.underlying155,Tryz.underlying161,Tryz.underlying165,Tryz.underlying172,Tryz.underlying175,Tryz.underlying179,Tryz.underlying181,Tryz.underlying183,Tryz.underlying186,Tryz.underlying190,Tryz.underlying202,Tryz.underlying204,Tryz.underlying208,Tryz.underlying221,Tryz.underlying238,Tryz.underlying239,Tryz.underlying240,Tryz.underlying242,Tryz.underlying245,Tryz.underlying247,Tryz.underlying252,Tryz.underlying263,Tryz.underlying265,Tryz.underlying268,Tryz.underlying307,Tryz.underlying308,Tryz.underlying309,Tryz.underlying310,Tryz.underlying311,Tryz.underlying324,Tryz.underlying326,Tryz.type0,Tryz.type3,Tryz.type4,Tryz.type9,Tryz.type22,Tryz.type23,Tryz.type24,Tryz.type25,Tryz.type26,Tryz.type28,Tryz.type29,Tryz.type36,Tryz.type39,Tryz.type42,Tryz.type43,Tryz.type47,Tryz.type50,Tryz.type55,Tryz.type57,Tryz.type58,Tryz.type60,Tryz.type61,Tryz.type63,Tryz.type65,Tryz.type72,Tryz.type74,Tryz.type76,Tryz.type80,Tryz.type101,Tryz.type111,Tryz.type121,Tryz.type126,Tryz.type130,Tryz.type133,Tryz.type140,Tryz.type144,Tryz.type151,Tryz.type161,Tryz.type165,Tryz.type172,Tryz.type175,Tryz.type181,Tryz.type183,Tryz.type186,Tryz.type190,Tryz.type202,Tryz.type208,Tryz.type221,Tryz.type238,Tryz.type239,Tryz.type240,Tryz.type242,Tryz.type245,Tryz.type247,Tryz.type252,Tryz.type263,Tryz.type268,Tryz.type307,Tryz.type308,Tryz.type309,Tryz.type310,Tryz.type311,Tryz.type324,Tryz.type326,Tryz.t0,Tryz.t3,Tryz.t4,Tryz.t9,Tryz.t22,Tryz.t23,Tryz.t24,Tryz.t25,Tryz.t26,Tryz.t28,Tryz.t29,Tryz.t36,Tryz.t39,Tryz.t42,Tryz.t43,Tryz.t47,Tryz.t50,Tryz.t55,Tryz.t57,Tryz.t58,Tryz.t60,Tryz.t61,Tryz.t63,Tryz.t65,Tryz.t72,Tryz.t74,Tryz.t76,Tryz.t80,Tryz.t101,Tryz.t111,Tryz.t121,Tryz.t126,Tryz.t130,Tryz.t133,Tryz.t140,Tryz.t144,Tryz.t151,Tryz.t161,Tryz.t165,Tryz.t172,Tryz.t175,Tryz.t181,Tryz.t183,Tryz.t186,Tryz.t190,Tryz.t202,Tryz.t208,Tryz.t221,Tryz.t238,Tryz.t239,Tryz.t240,Tryz.t242,Tryz.t245,Tryz.t247,Tryz.t252,Tryz.t263,Tryz.t268,Tryz.t307,Tryz.t308,Tryz.t309,Tryz.t310,Tryz.t311,Tryz.t324,Tryz.t326,Nat.reduceEqDiff,reduceIte]
 try dsimp only[ae,cf,js,bD,ez,bN,cb,e6,bT,aq,fe,bl,bp,dE,ys,j2,cv,cp,qh,fU,gZ,oR,oj,cJ,jL,h0,pC,Lg,CE,nC,uS,uR,rf,lz,wO,List.map_cons,List.map_nil]
 exact q):c=d:=h (· = d) rfl
theorem bn{f:E_}{n:Nat}{r:C_ mr}{c d:eC}{args:C_ B_}{R:B_->A_->Prop}{w:A_}(ah:k6 Tryz.prog f=some ⟨n,r,c⟩)(h:dO Tryz.prog d (qG r R ⟨⟩) (hQ args 0) w ⟨⟩)(e:c=d:=by exact AP)(aV:args.length<=n:=by exact Nat.le_of_ble_eq_true rfl):a7 Tryz.prog f args.toArray w R:=_h lj (ah.trans (congrArg (fun c=>some (⟨n,r,c⟩:mq)) e)) aV h
abbrev bf(f:E_)(c:mq):Prop:=k6 Tryz.prog f=some c
theorem bg{f:E_}{c:mq}(h:k6 Tryz.prog f=some c:=by kernel_rfl):bf f c:=h
theorem E.Fb:bf F.Fb ⟨86,[.tmp 4],bj Tryz.prog [12] [] (bm Tryz.f7)⟩:=bg
theorem E.ho:bf F.ho ⟨83,[.tmp 4],bj Tryz.prog [] [(3,(.dM (.take (ez 25 (.dY 5 (ae 2))) (.take (ez 27 (.dY 5 (ae 2))) (.take (ez 29 (.dY 5 (ae 2))) (.alt (cb 26 (.fn F.c [(ae 25)])) (.alt (cb 28 (.fn F.b [(ae 27)])) (.bk (cb 30 (.fn F.a [(ae 29)])) (.take (bD 31 (.gh 2 (ae 30))) (.alt (bN 5 (.new T.c cp)) (.alt (bN 6 (.new T.d cp)) (.bk (ys 5 26) (.bk (ys 6 28) (.take (aq 7 31) .done) .nil) .nil) .nil) (.alt (bN 6 (.new T.d cp)) (.alt (bN 5 (.new T.c cp)) (.bk (ys 5 26) (.bk (ys 6 28) (.take (aq 7 31) .done) .nil) .nil) .nil) .nil))) (.alt (bN 5 (.new T.c cp)) (.bk (cb 30 (.fn F.a [(ae 29)])) (.take (bD 31 (.gh 2 (ae 30))) (.alt (bN 6 (.new T.d cp)) (.bk (ys 5 26) (.bk (ys 6 28) (.take (aq 7 31) .done) .nil) .nil) .nil)) (.alt (bN 6 (.new T.d cp)) (.bk (cb 30 (.fn F.a [(ae 29)])) (.take (bD 31 (.gh 2 (ae 30))) (.bk (ys 5 26) (.bk (ys 6 28) (.take (aq 7 31) .done) .nil) .nil)) .nil) .nil)) (.alt (bN 6 (.new T.d cp)) (.bk (cb 30 (.fn F.a [(ae 29)])) (.take (bD 31 (.gh 2 (ae 30))) (.alt (bN 5 (.new T.c cp)) (.bk (ys 5 26) (.bk (ys 6 28) (.take (aq 7 31) .done) .nil) .nil) .nil)) (.alt (bN 5 (.new T.c cp)) (.bk (cb 30 (.fn F.a [(ae 29)])) (.take (bD 31 (.gh 2 (ae 30))) (.bk (ys 5 26) (.bk (ys 6 28) (.take (aq 7 31) .done) .nil) .nil)) .nil) .nil)) .nil))) (.alt (bN 5 (.new T.c cp)) (.alt (cb 28 (.fn F.b [(ae 27)])) (.bk (cb 30 (.fn F.a [(ae 29)])) (.take (bD 31 (.gh 2 (ae 30))) (.alt (bN 6 (.new T.d cp)) (.bk (ys 5 26) (.bk (ys 6 28) (.take (aq 7 31) .done) .nil) .nil) .nil)) (.alt (bN 6 (.new T.d cp)) (.bk (cb 30 (.fn F.a [(ae 29)])) (.take (bD 31 (.gh 2 (ae 30))) (.bk (ys 5 26) (.bk (ys 6 28) (.take (aq 7 31) .done) .nil) .nil)) .nil) .nil)) (.alt (bN 6 (.new T.d cp)) (.alt (cb 28 (.fn F.b [(ae 27)])) (.bk (cb 30 (.fn F.a [(ae 29)])) (.take (bD 31 (.gh 2 (ae 30))) (.bk (ys 5 26) (.bk (ys 6 28) (.take (aq 7 31) .done) .nil) .nil)) .nil) .nil) .nil)) (.alt (bN 6 (.new T.d cp)) (.alt (cb 28 (.fn F.b [(ae 27)])) (.bk (cb 30 (.fn F.a [(ae 29)])) (.take (bD 31 (.gh 2 (ae 30))) (.alt (bN 5 (.new T.c cp)) (.bk (ys 5 26) (.bk (ys 6 28) (.take (aq 7 31) .done) .nil) .nil) .nil)) (.alt (bN 5 (.new T.c cp)) (.bk (cb 30 (.fn F.a [(ae 29)])) (.take (bD 31 (.gh 2 (ae 30))) (.bk (ys 5 26) (.bk (ys 6 28) (.take (aq 7 31) .done) .nil) .nil)) .nil) .nil)) (.alt (bN 5 (.new T.c cp)) (.alt (cb 28 (.fn F.b [(ae 27)])) (.bk (cb 30 (.fn F.a [(ae 29)])) (.take (bD 31 (.gh 2 (ae 30))) (.bk (ys 5 26) (.bk (ys 6 28) (.take (aq 7 31) .done) .nil) .nil)) .nil) .nil) .nil)) .nil))) (.alt (bN 5 (.new T.c cp)) (.alt (cb 26 (.fn F.c [(ae 25)])) (.alt (cb 28 (.fn F.b [(ae 27)])) (.bk (cb 30 (.fn F.a [(ae 29)])) (.take (bD 31 (.gh 2 (ae 30))) (.alt (bN 6 (.new T.d cp)) (.bk (ys 5 26) (.bk (ys 6 28) (.take (aq 7 31) .done) .nil) .nil) .nil)) (.alt (bN 6 (.new T.d cp)) (.bk (cb 30 (.fn F.a [(ae 29)])) (.take (bD 31 (.gh 2 (ae 30))) (.bk (ys 5 26) (.bk (ys 6 28) (.take (aq 7 31) .done) .nil) .nil)) .nil) .nil)) (.alt (bN 6 (.new T.d cp)) (.alt (cb 28 (.fn F.b [(ae 27)])) (.bk (cb 30 (.fn F.a [(ae 29)])) (.take (bD 31 (.gh 2 (ae 30))) (.bk (ys 5 26) (.bk (ys 6 28) (.take (aq 7 31) .done) .nil) .nil)) .nil) .nil) .nil)) (.alt (bN 6 (.new T.d cp)) (.alt (cb 26 (.fn F.c [(ae 25)])) (.alt (cb 28 (.fn F.b [(ae 27)])) (.bk (cb 30 (.fn F.a [(ae 29)])) (.take (bD 31 (.gh 2 (ae 30))) (.bk (ys 5 26) (.bk (ys 6 28) (.take (aq 7 31) .done) .nil) .nil)) .nil) .nil) .nil) .nil)) (.alt (bN 6 (.new T.d cp)) (.alt (cb 26 (.fn F.c [(ae 25)])) (.alt (cb 28 (.fn F.b [(ae 27)])) (.bk (cb 30 (.fn F.a [(ae 29)])) (.take (bD 31 (.gh 2 (ae 30))) (.alt (bN 5 (.new T.c cp)) (.bk (ys 5 26) (.bk (ys 6 28) (.take (aq 7 31) .done) .nil) .nil) .nil)) (.alt (bN 5 (.new T.c cp)) (.bk (cb 30 (.fn F.a [(ae 29)])) (.take (bD 31 (.gh 2 (ae 30))) (.bk (ys 5 26) (.bk (ys 6 28) (.take (aq 7 31) .done) .nil) .nil)) .nil) .nil)) (.alt (bN 5 (.new T.c cp)) (.alt (cb 28 (.fn F.b [(ae 27)])) (.bk (cb 30 (.fn F.a [(ae 29)])) (.take (bD 31 (.gh 2 (ae 30))) (.bk (ys 5 26) (.bk (ys 6 28) (.take (aq 7 31) .done) .nil) .nil)) .nil) .nil) .nil)) (.alt (bN 5 (.new T.c cp)) (.alt (cb 26 (.fn F.c [(ae 25)])) (.alt (cb 28 (.fn F.b [(ae 27)])) (.bk (cb 30 (.fn F.a [(ae 29)])) (.take (bD 31 (.gh 2 (ae 30))) (.bk (ys 5 26) (.bk (ys 6 28) (.take (aq 7 31) .done) .nil) .nil)) .nil) .nil) .nil) .nil)) .nil))))))))] (bm Tryz.f8)⟩:=bg
theorem E.Fc:bf F.Fc ⟨48,[.tmp 0],bj Tryz.prog [] [] (bm Tryz.f10)⟩:=bg
theorem E.iR:bf F.iR ⟨22,[.tmp 4],bj Tryz.prog [] [] (bm Tryz.f12)⟩:=bg
theorem E.E7:bf F.E7 ⟨9,[.jw 6 2],bj Tryz.prog [] [] (bm Tryz.f18)⟩:=bg
theorem E.JX:bf F.JX ⟨63,[.jw 4 2],bj Tryz.prog [] [] (bm Tryz.f19)⟩:=bg
theorem E.J7:bf F.J7 ⟨14,[.tmp 4],bj Tryz.prog [] [(1,(.dM (.take (ez 5 (.dY 5 (ae 2))) (.alt (cb 6 (.fn F.E6 [(ae 5)])) (.take (aq 7 6) (.take (bT 7 true (ez 8 (.dY 5 (ae 2)))) (.take (bT 7 true (ez 9 (.dY 5 (ae 2)))) (.take (bT 7 true (aq 11 1)) (.alt (bT 7 true (cb 10 (.fn F.E7 [(ae 9)]))) (.bk (bT 7 true (cb 12 (.fn F.E8 [(ae 8),(ae 10),(ae 11)]))) (.take (oR 13 7 12) (.take (aq 4 13) .done)) .nil) .nil))))) .nil))))] (bm Tryz.f20)⟩:=bg
theorem E.Kb:bf F.Kb ⟨21,[.tmp 4,.tmp 5],bj Tryz.prog [] [] (bm Tryz.f21)⟩:=bg
theorem E.k5:bf F.k5 ⟨15,[.tmp 4],bj Tryz.prog [] [] (bm Tryz.f23)⟩:=bg
theorem E.b:bf F.b ⟨6,[.tmp 2],bj Tryz.prog [] [] (bm Tryz.f25)⟩:=bg
theorem E.a:bf F.a ⟨15,[.jw 6 2],bj Tryz.prog [] [] (bm Tryz.f26)⟩:=bg
theorem E.x:bf F.x ⟨28,[.tmp 5],bj Tryz.prog [1] [] (bm Tryz.f27)⟩:=bg
theorem E.ce:bf F.ce ⟨50,[.tmp 4],bj Tryz.prog [] [(6,(.dM (.take (ez 24 (.dY 5 (ae 2))) (.take (ez 25 (.dY 5 (ae 2))) (.take (aq 27 5) (.take (aq 28 1) (.take (dE 29 2 27 28) (.take (ez 30 (.dY 2 (ae 29))) (.alt (cb 26 (.fn F.b [(ae 25)])) (.bk (cb 31 (.fn F.g [(ae 24),(ae 26),(ae 30)])) (.alt (bN 6 (.new T.k (.agg #[qh,cv,cv,cp,cp,(.bool false)]))) (.bk (e6 (.hz 6 (ae 6) (ae 31))) .done .nil) .nil) (.alt (bN 6 (.new T.k (.agg #[qh,cv,cv,cp,cp,(.bool false)]))) (.bk (cb 31 (.fn F.g [(ae 24),(ae 26),(ae 30)])) (.bk (e6 (.hz 6 (ae 6) (ae 31))) .done .nil) .nil) .nil)) (.alt (bN 6 (.new T.k (.agg #[qh,cv,cv,cp,cp,(.bool false)]))) (.alt (cb 26 (.fn F.b [(ae 25)])) (.bk (cb 31 (.fn F.g [(ae 24),(ae 26),(ae 30)])) (.bk (e6 (.hz 6 (ae 6) (ae 31))) .done .nil) .nil) .nil) .nil))))))))))] (bm Tryz.f29)⟩:=bg
theorem E.GV:bf F.GV ⟨29,[.tmp 6],bj Tryz.prog [] [] (bm Tryz.f30)⟩:=bg
theorem E.ga:bf F.ga ⟨18,[.tmp 4],bj Tryz.prog [] [] (bm Tryz.f32)⟩:=bg
theorem E.e:bf F.e ⟨18,[.tmp 4],bj Tryz.prog [1] [] (bm Tryz.f34)⟩:=bg
theorem E.JV:bf F.JV ⟨43,[.tmp 2],bj Tryz.prog [8] [] (bm Tryz.f38)⟩:=bg
theorem E.J5:bf F.J5 ⟨7,[.tmp 2],bj Tryz.prog [] [] (bm Tryz.f45)⟩:=bg
theorem E.J4:bf F.J4 ⟨99,[.jw 6 2],bj Tryz.prog [] [(12,(.dM (.take (bl 75 4 3) (.take (bp 76 75) (.take (aq 77 4) (.take (aq 78 5) (.take (dE 79 6 77 78) (.take (bl 80 3 79) (.take (bp 81 80) (.alt (bN 82 (.fZ T.a 1 1 [cv] [(0,(ae 81))])) (.bk (bN 83 (.app T.b T.a 1 8 (ae 76) (ae 82))) (.take (bl 84 4 3) (.bk (ys 84 83) .done .nil)) .nil) .nil)))))))))),(13,(.dM (.take (bl 85 5 3) (.take (bp 86 85) (.take (aq 87 4) (.take (aq 88 5) (.take (dE 89 6 87 88) (.take (bl 90 4 89) (.take (bp 91 90) (.alt (bN 92 (.fZ T.a 1 1 [cv] [(0,(ae 91))])) (.bk (bN 93 (.app T.b T.a 1 8 (ae 86) (ae 92))) (.take (bl 94 5 3) (.bk (ys 94 93) .done .nil)) .nil) .nil))))))))))] (bm Tryz.f46)⟩:=bg
theorem E.J0:bf F.J0 ⟨93,[.jw 4 2],bj Tryz.prog [7,15] [(10,(.dM (.take (ez 45 (.dY 5 (ae 1))) (.take (aq 46 5) (.take (bl 48 1 1) (.take (bp 49 48) (.take (aq 50 5) (.take (dE 51 6 49 50) (.take (bl 52 0 51) (.take (bp 53 52) (.alt (cb 47 (.fn F.wj [(ae 45),(cf 2),(ae 46)])) (.bk (cb 54 (.fn F.wk [(ae 47),(ae 53)])) .done .nil) .nil))))))))))),(18,(.dM (.take (ez 80 (.dY 5 (ae 1))) (.take (aq 81 8) (.take (bl 83 2 1) (.take (bp 84 83) (.take (aq 85 8) (.take (dE 86 6 84 85) (.take (bl 87 0 86) (.take (bp 88 87) (.alt (cb 82 (.fn F.wj [(ae 80),(cf 3),(ae 81)])) (.bk (cb 89 (.fn F.wk [(ae 82),(ae 88)])) .done .nil) .nil)))))))))))] (bm Tryz.f47)⟩:=bg
theorem E.J1:bf F.J1 ⟨66,[.jw 4 4],bj Tryz.prog [] [(4,(.dM (.take (ez 20 (.dY 5 (ae 5))) (.take (ez 21 (.dY 5 (ae 2))) (.take (aq 22 1) (.alt (cb 23 (.fn F.E5 [(ae 21),(ae 22)])) (.bk (cb 24 (.fn F.E4 [(ae 20),(ae 23)])) (.take (aq 19 24) (.take (bD 25 (.ext (ae 19) 0)) (.take (bD 26 (.ext (ae 19) 1)) (.take (bD 27 (.ext (ae 19) 2)) (.take (aq 6 25) (.take (aq 7 26) (.take (aq 8 27) .done))))))) .nil) .nil)))))),(7,(.dM (.take (ez 37 (.dY 5 (ae 2))) (.take (aq 38 1) (.take (bl 40 0 5) (.take (bp 41 40) (.alt (cb 39 (.fn F.wj [(ae 37),(cf 4),(ae 38)])) (.bk (cb 42 (.fn F.wk [(ae 39),(ae 41)])) .done .nil) .nil))))))),(12,(.dM (.take (ez 52 (.dY 5 (ae 2))) (.take (bl 54 3 5) (.take (bp 55 54) (.take (aq 56 9) (.take (dE 57 6 55 56) (.take (bl 58 0 57) (.take (bp 59 58) (.alt (cb 53 (.fn F.wj [(ae 52),(cf 5),(cf 0)])) (.bk (cb 60 (.fn F.wk [(ae 53),(ae 59)])) .done .nil) .nil))))))))))] (bm Tryz.f48)⟩:=bg
theorem E.JZ:bf F.JZ ⟨90,[.tmp 2,.tmp 3,.tmp 4],bj Tryz.prog [5,13] [(9,(.dk [aq 36 7,gZ .add T.a 37 36 1,bl 38 2 1,bp 39 38,aq 40 9,dE 41 6 39 40,bl 42 2 41,bp 43 42,bD 44 (.uy (ae 43) (cf 0)),bD 45 (.wo (ae 44) (cf 4)),fU .add T.a 46 37 45,aq 7 46]))] (bm Tryz.f49)⟩:=bg
theorem E.J2:bf F.J2 ⟨45,[.tmp 4],bj Tryz.prog [] [(6,(.dM (.take (ez 19 (.dY 5 (ae 2))) (.take (aq 20 1) (.take (bl 22 0 5) (.take (bp 23 22) (.alt (cb 21 (.fn F.wj [(ae 19),(cf 5),(ae 20)])) (.bk (cb 24 (.fn F.wk [(ae 21),(ae 23)])) .done .nil) .nil)))))))] (bm Tryz.f50)⟩:=bg
theorem E.E6:bf F.E6 ⟨7,[.tmp 2],bj Tryz.prog [] [] (bm Tryz.f51)⟩:=bg
theorem E.E8:bf F.E8 ⟨45,[.tmp 6],bj Tryz.prog [7] [] (bm Tryz.f52)⟩:=bg
theorem E.Kc:bf F.Kc ⟨46,[.tmp 6],bj Tryz.prog [6] [(8,(.dk [aq 40 8,aq 41 9,bD 42 (.yZ .u64 (ae 41)),bD 43 (.bin .shl T.UI (.const (.int .u64 1)) (ae 42)),fU .or T.UI 44 40 43,aq 8 44]))] (bm Tryz.f53)⟩:=bg
noncomputable def C.a0:mq:=⟨88,[],bj Tryz.prog [] [(2,(.fs [aq 18 5,aq 19 4] (some 20) F.d [(ae 18),(cf 1),(ae 19),(cf 0)])),(6,(.dk [aq 28 1,bl 29 0 7,bp 30 29,e6 (.jE .string (ae 28) (ae 30) (js true))])),(13,(.fs [aq 51 5,aq 52 8] (some 53) F.d [(ae 51),(cf 2),(ae 52),(cf 0)])),(14,(.fs [aq 54 1,bl 55 0 9,bp 56 55,aq 57 8] (some 58) F.ad [(ae 54),(ae 56),(cf 2),(ae 57)])),(21,(.fs [aq 79 5,aq 80 10] (some 81) F.d [(ae 79),(cf 3),(ae 80),(cf 0)])),(22,(.fs [aq 82 1,bl 83 0 11,bp 84 83,aq 85 10] (some 86) F.ad [(ae 82),(ae 84),(cf 3),(ae 85)]))] (bm Tryz.f55)⟩
theorem E.a0:k6 Tryz.prog F.a0=some C.a0:=by kernel_rfl
noncomputable def C.df:mq:=⟨105,[],bj Tryz.prog [] [(1,(.dk [bN 18 .ta,aq 4 18])),(2,(.dk [aq 19 1,bN 20 (.raw (.range T.a9 (ae 19)) T.z)])),(3,(.dk [bN 21 (.raw (.next (ae 20) false) T.z),bD 22 (.ext (ae 21) 0)])),(4,(.dk [bN 23 (.raw (.entry (ae 20)) T.z),bD 24 (.ext (ae 23) 0),aq 5 24])),(5,(.dk [aq 25 4,aq 26 5,e6 (.jE .string (ae 25) (ae 26) (js true))])),(9,(.dk [aq 34 4,bl 35 0 7,bp 36 35,e6 (.jE .string (ae 34) (ae 36) (js true))])),(15,(.fs [aq 48 8] (some 49) F.d [(cf 11),(cf 4),(ae 48),(cf 0)])),(16,(.dM (.take (ez 51 (.dY 5 (ae 9))) (.take (ez 52 (.dY 5 (ae 2))) (.take (aq 53 8) (.alt (cb 54 (.fn F.gM [(ae 52),(ae 53)])) (.bk (cb 55 (.fn F.gl [(ae 51),(ae 54)])) (.take (aq 50 55) (.take (bD 56 (.ext (ae 50) 0)) (.take (bD 57 (.ext (ae 50) 1)) (.take (bD 58 (.ext (ae 50) 2)) (.take (aq 10 56) (.take (aq 11 57) (.take (aq 12 58) .done))))))) .nil) .nil)))))),(17,(.fs [aq 59 12,aq 60 8,aq 61 10,bD 62 (.bin .mul T.a (cf 16) (ae 61)),aq 63 11,fU .add T.a 64 62 63] (some 65) F.d [(ae 59),(cf 4),(ae 60),(ae 64)])),(18,(.fs [aq 66 1,bl 67 0 9,bp 68 67,aq 69 8] (some 70) F.ad [(ae 66),(ae 68),(cf 4),(ae 69)])),(22,(.dk [aq 79 4,bl 80 0 14,bp 81 80,ez 82 (.nv .string (.bool false) false (ae 79) (ae 81))])),(23,(.fs [aq 83 8,aq 84 13,bD 85 (.bin .add T.a (cf 16) (ae 84))] (some 86) F.d [(cf 7),(cf 4),(ae 83),(ae 85)])),(28,(.fs [bl 101 3 2,bp 102 101,j2 103 102] (some 104) F.d [(cf 11),(cf 4),(ae 103),(cf 0)]))] (bm Tryz.f56)⟩
theorem E.df:k6 Tryz.prog F.df=some C.df:=by kernel_rfl
noncomputable def C.a2:mq:=⟨51,[],bj Tryz.prog [] [(6,(.fs [aq 22 5] (some 23) F.d [(cf 11),(cf 5),(ae 22),(cf 0)])),(8,(.fs [aq 29 5] (some 30) F.d [(cf 6),(cf 5),(ae 29),(cf 0)])),(9,(.fs [aq 31 1,bl 32 0 6,bp 33 32,aq 34 5] (some 35) F.ad [(ae 31),(ae 33),(cf 5),(ae 34)])),(11,(.fs [aq 43 8,aq 44 5] (some 45) F.d [(ae 43),(cf 5),(ae 44),(cf 0)])),(13,(.fs [aq 48 5] (some 49) F.d [(cf 9),(cf 5),(ae 48),(cf 0)]))] (bm Tryz.f57)⟩
theorem E.a2:k6 Tryz.prog F.a2=some C.a2:=by kernel_rfl
theorem E.Dv:bf F.Dv ⟨14,[.tmp 2],bj Tryz.prog [] [(3,(.dM (.take (ez 7 (.dY 5 (ae 1))) (.take (ez 9 (.dY 5 (ae 1))) (.take (ez 10 (.dY 5 (ae 1))) (.alt (cb 8 (.fn F.a [(ae 7)])) (.alt (cb 11 (.fn F.b [(ae 10)])) (.take (bD 12 (.gg [cp,cp,cp,cv,cp,cp,cp,cp,cp,cp,cp,cp] [(0,6),(6,5),(11,1)] [(0,(ae 8)),(1,(ae 9)),(2,(ae 11))])) (.bk (bN 13 (.box T.tI (ae 12))) (.take (aq 2 13) .done) .nil)) .nil) .nil))))))] (bm Tryz.f58)⟩:=bg
theorem E.xq:bf F.xq ⟨61,[.tmp 4],bj Tryz.prog [] [] (bm Tryz.f59)⟩:=bg
theorem E.a3:bf F.a3 ⟨4,[.tmp 2],bj Tryz.prog [] [] (bm Tryz.f60)⟩:=bg
theorem E.cs:bf F.cs ⟨7,[.tmp 2],bj Tryz.prog [] [] (bm Tryz.f62)⟩:=bg
theorem E.A9:bf F.A9 ⟨142,[.jw 6 2,.tmp 3],bj Tryz.prog [] [(12,(.dM (.wide (.take (bl 43 0 4) (.take (bp 44 43) (.take (aq 45 6) (.take (aq 46 7) (.take (aq 47 9) (.alt (cb 48 (.val (ae 45) [(cf 1),(ae 46),(ae 47)])) (.alt (bN 49 (.fZ T.a 1 1 [cv] [(0,(ae 48))])) (.bk (bN 50 (.app T.b T.a 1 8 (ae 44) (ae 49))) (.take (bl 51 0 4) (.bk (ys 51 50) .done .nil)) .nil) .nil) .nil))))))))),(18,(.dk [bl 65 1 11,bp 66 65,bl 67 3 11,bp 68 67,bD 69 (.wo (ae 68) (cf 0)),bl 70 4 11,bp 71 70,bD 72 (.uy (ae 71) (cf 0)),bD 73 (.gg [qh,cv,cv,cv,cv,cv] [(0,1),(1,1),(2,1),(3,1),(4,1),(5,1)] [(1,(ae 66)),(3,(ae 69)),(4,(ae 72))]),bl 74 0 1,bp 75 74,cb 76 (.fn F.AW [(ae 73),(ae 75)]),bN 13 (.new T.j (.agg #[cv,cv,cv])),e6 (.hz 3 (ae 13) (ae 76))])),(23,(.dM (.wide (.take (bl 86 1 4) (.take (bp 87 86) (.take (aq 88 6) (.take (aq 89 10) (.take (aq 90 12) (.alt (cb 91 (.val (ae 88) [(cf 2),(ae 89),(ae 90)])) (.alt (bN 92 (.fZ T.a 1 1 [cv] [(0,(ae 91))])) (.bk (bN 93 (.app T.b T.a 1 8 (ae 87) (ae 92))) (.take (bl 94 1 4) (.bk (ys 94 93) .done .nil)) .nil) .nil) .nil))))))))),(35,(.dM (.wide (.take (bl 130 2 4) (.take (bp 131 130) (.take (aq 132 6) (.take (aq 133 14) (.take (aq 134 17) (.alt (cb 135 (.val (ae 132) [(cf 3),(ae 133),(ae 134)])) (.alt (bN 136 (.fZ T.a 1 1 [cv] [(0,(ae 135))])) (.bk (bN 137 (.app T.b T.a 1 8 (ae 131) (ae 136))) (.take (bl 138 2 4) (.bk (ys 138 137) .done .nil)) .nil) .nil) .nil))))))))),(37,(.dM (.bk (ez 140 (.dY 6 (ae 4))) (.bk (bp 141 5) (.bk (e6 (.hz 6 (ae 2) (ae 140))) (.take (aq 3 141) .done) .nil) (.bk (e6 (.hz 6 (ae 2) (ae 140))) (.bk (bp 141 5) (.take (aq 3 141) .done) .nil) .nil)) (.bk (bp 141 5) (.bk (ez 140 (.dY 6 (ae 4))) (.bk (e6 (.hz 6 (ae 2) (ae 140))) (.take (aq 3 141) .done) .nil) .nil) .nil))))] (bm Tryz.f63)⟩:=bg
theorem E.a4:bf F.a4 ⟨27,[.tmp 2],bj Tryz.prog [] [] (bm Tryz.f64)⟩:=bg
theorem E.a5:bf F.a5 ⟨8,[.tmp 6],bj Tryz.prog [] [] (bm Tryz.f65)⟩:=bg
theorem E.y:bf F.y ⟨8,[.tmp 3],bj Tryz.prog [] [] (bm Tryz.f66)⟩:=bg
theorem E.mW:bf F.mW ⟨24,[.tmp 4],bj Tryz.prog [] [] (bm Tryz.f67)⟩:=bg
theorem E.g:bf F.g ⟨22,[.jw 6 6],bj Tryz.prog [] [(1,(.dM (.take (bl 7 3 3) (.take (bp 8 7) (.take (aq 9 1) (.take (bl 10 0 5) (.take (bp 11 10) (.take (dE 12 2 9 11) (.take (bl 13 0 12) (.take (bp 14 13) (.take (dE 15 5 8 14) (.take (bl 16 4 15) (.take (bp 17 16) (.take (bl 18 1 5) (.take (bp 19 18) (.take (dE 20 6 17 19) (.take (ez 21 (.dY 6 (ae 20))) (.bk (e6 (.hz 6 (ae 6) (ae 21))) .done .nil))))))))))))))))))] (bm Tryz.f68)⟩:=bg
theorem E.rr:bf F.rr ⟨57,[.tmp 4,.tmp 5],bj Tryz.prog [] [(4,(.dk [bN 22 .ta,bN 23 .ta,aq 9 22,aq 10 23]))] (bm Tryz.f69)⟩:=bg
theorem E.rz:bf F.rz ⟨45,[.tmp 2],bj Tryz.prog [] [(3,(.dM (.take (ez 14 (.dY 5 (ae 1))) (.take (ez 16 (.dY 5 (ae 1))) (.alt (cb 15 (.fn F.a [(ae 14)])) (.bk (cb 17 (.fn F.b [(ae 16)])) (.alt (bN 3 (.new T.h (.agg #[cp,cp,cp,cv,cp,cp]))) (.bk (e6 (.hz 6 (ae 3) (ae 15))) (.take (aq 4 17) .done) .nil) .nil) (.alt (bN 3 (.new T.h (.agg #[cp,cp,cp,cv,cp,cp]))) (.bk (cb 17 (.fn F.b [(ae 16)])) (.bk (e6 (.hz 6 (ae 3) (ae 15))) (.take (aq 4 17) .done) .nil) .nil) .nil)) (.alt (bN 3 (.new T.h (.agg #[cp,cp,cp,cv,cp,cp]))) (.alt (cb 15 (.fn F.a [(ae 14)])) (.bk (cb 17 (.fn F.b [(ae 16)])) (.bk (e6 (.hz 6 (ae 3) (ae 15))) (.take (aq 4 17) .done) .nil) .nil) .nil) .nil))))))] (bm Tryz.f70)⟩:=bg
theorem E.s:bf F.s ⟨8,[.tmp 3],bj Tryz.prog [] [] (bm Tryz.f72)⟩:=bg
theorem E.fL:bf F.fL ⟨20,[.tmp 4,.tmp 5],bj Tryz.prog [] [] (bm Tryz.f73)⟩:=bg
theorem E.G4:bf F.G4 ⟨16,[.tmp 4],bj Tryz.prog [] [] (bm Tryz.f74)⟩:=bg
theorem E.cX:bf F.cX ⟨40,[.tmp 6],bj Tryz.prog [] [(5,(.dM (.take (aq 21 0) (.take (aq 22 2) (.take (aq 24 0) (.take (bD 25 (.e3 (ae 24))) (.take (bl 26 0 25) (.take (bl 27 2 26) (.take (bp 28 27) (.alt (cb 23 (.fn F.h [(ae 21),(ae 22)])) (.bk (cb 29 (.fn F.be [(ae 23),(ae 28)])) (.take (gZ .gtr T.a 30 29 1) .done) .nil) .nil))))))))))] (bm Tryz.f75)⟩:=bg
theorem E.c6:bf F.c6 ⟨46,[.tmp 4],bj Tryz.prog [] [] (bm Tryz.f80)⟩:=bg
theorem E.JW:bf F.JW ⟨32,[.tmp 4],bj Tryz.prog [] [] (bm Tryz.f83)⟩:=bg
theorem E.Jx:bf F.Jx ⟨107,[.tmp 4,.tmp 5],bj Tryz.prog [18,20,22] [] (bm Tryz.f84)⟩:=bg
theorem E.J8:bf F.J8 ⟨129,[.jw 5 8],bj Tryz.prog [6,18] [(7,(.dM (.take (bl 35 0 10) (.take (bp 36 35) (.take (aq 38 2) (.take (bl 39 0 5) (.take (bp 40 39) (.take (aq 41 11) (.take (dE 42 1 40 41) (.take (bp 43 42) (.take (bl 44 0 5) (.take (bp 45 44) (.take (aq 46 11) (.take (dE 47 1 45 46) (.take (bp 48 47) (.take (aq 49 12) (.take (fU .add T.a 50 48 49) (.take (bD 51 (.hl 1 (ae 38) (some (ae 43)) (some (ae 50)) none)) (.alt (bN 37 (.fZ T.a 0 1 [] [])) (.alt (bN 52 (.app T.b T.a 1 8 (ae 37) (ae 51))) (.alt (bN 53 (.fZ T.b 1 1 [cp] [(0,(ae 52))])) (.bk (bN 54 (.app T.qx T.b 1 24 (ae 36) (ae 53))) (.take (bl 55 0 10) (.bk (ys 55 54) .done .nil)) .nil) .nil) .nil) .nil))))))))))))))))))),(11,(.dM (.take (bl 63 1 10) (.take (bp 64 63) (.take (aq 65 2) (.take (bl 66 1 5) (.take (bp 67 66) (.take (aq 68 13) (.take (dE 69 1 67 68) (.take (bp 70 69) (.take (dE 71 1 65 70) (.take (bp 72 71) (.alt (bN 73 (.fZ T.a 1 1 [cv] [(0,(ae 72))])) (.bk (bN 74 (.app T.b T.a 1 8 (ae 64) (ae 73))) (.take (bl 75 1 10) (.bk (ys 75 74) .done .nil)) .nil) .nil))))))))))))),(15,(.dM (.take (bl 83 3 10) (.take (bp 84 83) (.take (ez 85 (.dY 5 (ae 4))) (.take (ez 86 (.dY 6 (ae 5))) (.take (aq 87 2) (.take (aq 88 14) (.alt (cb 89 (.fn F.E9 [(ae 85),(ae 86),(ae 87),(ae 88)])) (.alt (bN 90 (.fZ T.b 1 1 [cp] [(0,(ae 89))])) (.bk (bN 91 (.app T.qx T.b 1 24 (ae 84) (ae 90))) (.take (bl 92 3 10) (.bk (ys 92 91) .done .nil)) .nil) .nil) .nil))))))))),(19,(.dM (.take (bl 112 2 10) (.take (bp 113 112) (.take (aq 114 2) (.take (aq 115 15) (.take (aq 116 15) (.take (aq 117 16) (.take (fU .add T.a 118 116 117) (.take (bD 119 (.hl 1 (ae 114) (some (ae 115)) (some (ae 118)) none)) (.bk (bN 120 (.app T.b T.a 1 8 (ae 113) (ae 119))) (.take (bl 121 2 10) (.bk (ys 121 120) .done .nil)) .nil)))))))))))] (bm Tryz.f85)⟩:=bg
theorem E.J3:bf F.J3 ⟨177,[.tmp 2],bj Tryz.prog [5,7,17,31] [(15,(.qD [bl 83 3 9,bp 84 83,bD 85 (.wo (cf 0) (ae 84)),bl 86 4 9,bp 87 86,bD 88 (.uy (cf 0) (ae 87)),aq 10 85,aq 11 88])),(26,(.dM (.take (bl 125 3 1) (.take (bp 126 125) (.take (aq 127 13) (.take (aq 128 14) (.take (dE 129 2 127 128) (.take (bl 130 0 129) (.take (bp 131 130) (.take (dE 132 5 126 131) (.take (ez 133 (.dY 5 (ae 132))) (.alt (bN 15 (.new T.l (.agg #[qh,cv,cv,cp,cp]))) (.bk (e6 (.hz 5 (ae 15) (ae 133))) .done .nil) .nil))))))))))))] (bm Tryz.f88)⟩:=bg
theorem E.JN:bf F.JN ⟨55,[.tmp 2,.tmp 3],bj Tryz.prog [11] [] (bm Tryz.f89)⟩:=bg
theorem E.JO:bf F.JO ⟨56,[.tmp 6,.tmp 7],bj Tryz.prog [11] [] (bm Tryz.f90)⟩:=bg
theorem E.wk:bf F.wk ⟨18,[.tmp 4],bj Tryz.prog [] [] (bm Tryz.f91)⟩:=bg
theorem E.wj:bf F.wj ⟨151,[.tmp 6],bj Tryz.prog [] [] (bm Tryz.f92)⟩:=bg
theorem E.JM:bf F.JM ⟨96,[.tmp 4,.tmp 5],bj Tryz.prog [11,15] [] (bm Tryz.f93)⟩:=bg
theorem E.E4:bf F.E4 ⟨148,[.tmp 4,.tmp 5,.tmp 6],bj Tryz.prog [20,26,32] [] (bm Tryz.f94)⟩:=bg
theorem E.E5:bf F.E5 ⟨42,[.jw 6 4],bj Tryz.prog [] [] (bm Tryz.f95)⟩:=bg
theorem E.JL:bf F.JL ⟨12,[.tmp 4],bj Tryz.prog [] [] (bm Tryz.f96)⟩:=bg
theorem E.JY:bf F.JY ⟨13,[.tmp 4],bj Tryz.prog [] [] (bm Tryz.f97)⟩:=bg
theorem E.Jt:bf F.Jt ⟨41,[.tmp 2],bj Tryz.prog [] [(1,(.dk [aq 5 0,bD 6 (.bin .eql T.ad (ae 5) (.const qh)),aq 7 6,bT 7 false (aq 8 0),bT 7 false (bD 9 (.oK (ae 8))),bT 7 false (gZ .gtr T.a 10 9 16),oj 11 7 10,aq 12 11,bT 12 false (aq 13 0),bT 12 false (bD 14 (.bin .eql T.ad (ae 13) (.const (.string ⟨#[115,101,108,102]⟩)))),oj 15 12 14,aq 16 15,bT 16 false (aq 17 0),bT 16 false (bD 18 (.bin .eql T.ad (ae 17) (.const (.string ⟨#[110,111,110,101]⟩)))),oj 19 16 18,aq 20 19,bT 20 false (aq 21 0),bT 20 false (bD 22 (.bin .eql T.ad (ae 21) (.const (.string ⟨#[108,101,110]⟩)))),oj 23 20 22,aq 24 23,bT 24 false (aq 25 0),bT 24 false (bD 26 (.bin .eql T.ad (ae 25) (.const (.string ⟨#[97,116]⟩)))),oj 27 24 26])),(4,(.dk [aq 33 4,gZ .eql T.a 34 33 1,aq 35 34,bT 35 true (aq 36 3),bT 35 true (aq 37 0),bT 35 true (bD 38 (.oK (ae 37))),bT 35 true (fU .eql T.a 39 36 38),oR 40 35 39,aq 2 40]))] (bm Tryz.f98)⟩:=bg
theorem E.Jy:bf F.Jy ⟨107,[.tmp 4,.tmp 5],bj Tryz.prog [18,20,22] [] (bm Tryz.f99)⟩:=bg
theorem E.J9:bf F.J9 ⟨82,[.tmp 6],bj Tryz.prog [2] [] (bm Tryz.f100)⟩:=bg
theorem E.Ka:bf F.Ka ⟨34,[.tmp 4],bj Tryz.prog [4] [] (bm Tryz.f101)⟩:=bg
theorem E.G8:bf F.G8 ⟨11,[.tmp 2,.tmp 3],bj Tryz.prog [] [] (bm Tryz.f102)⟩:=bg
noncomputable def C.d:mq:=⟨17,[],bj Tryz.prog [] [(1,(.r5 [aq 10 0,aq 11 1,aq 12 2,aq 13 3,bD 14 (.gg [cv,cv,cv,cv] [(0,1),(1,1),(2,1),(3,1)] [(0,(ae 10)),(1,(ae 11)),(2,(ae 12)),(3,(ae 13))]),bD 15 (.gg [cv,cv,cv,cv] [(0,4)] [(0,(ae 14))]),bD 16 (.zQ T.qw (ae 15))] (ae 16)))] (bm Tryz.f103)⟩
theorem E.d:k6 Tryz.prog F.d=some C.d:=by kernel_rfl
theorem E.G9:bf F.G9 ⟨17,[.tmp 6,.tmp 7],bj Tryz.prog [] [(1,(.dk [bp 8 3,j2 9 8,aq 10 2,bD 11 (.uy (ae 10) (cf 0)),bD 12 (.uz F.mX [] [(ae 3)]),bD 13 (.uz F.ru [] [(ae 3),(ae 4)]),cb 14 (.fn F.bi [(ae 9),(ae 11),(ae 12),(ae 13)]),bD 15 (.ext (ae 14) 0),bD 16 (.ext (ae 14) 1),aq 6 15,aq 7 16]))] (bm Tryz.f104)⟩:=bg
noncomputable def C.ad:mq:=⟨16,[],bj Tryz.prog [] [(0,(.dk [aq 8 0,aq 9 1,ez 10 (.nv .string (.bool false) false (ae 8) (ae 9))])),(1,(.fs [aq 11 2,aq 12 3] (some 13) F.d [(cf 7),(ae 11),(ae 12),(cf 0)])),(2,(.dk [aq 14 0,aq 15 1,e6 (.jE .string (ae 14) (ae 15) (js true))]))] (bm Tryz.f105)⟩
theorem E.ad:k6 Tryz.prog F.ad=some C.ad:=by kernel_rfl
theorem E.Ha:bf F.Ha ⟨13,[.tmp 4,.tmp 5],bj Tryz.prog [] [] (bm Tryz.f106)⟩:=bg
theorem E.gl:bf F.gl ⟨64,[.tmp 4,.tmp 5,.tmp 6],bj Tryz.prog [] [] (bm Tryz.f107)⟩:=bg
theorem E.gM:bf F.gM ⟨33,[.jw 6 4],bj Tryz.prog [] [(3,(.dM (.take (bl 24 3 2) (.take (bp 25 24) (.take (aq 26 1) (.take (dE 27 5 25 26) (.take (ez 28 (.dY 5 (ae 27))) (.take (ez 29 (.dY 6 (ae 5))) (.bk (cb 30 (.fn F.Dk [(ae 28),(ae 29)])) (.bk (e6 (.hz 6 (ae 5) (ae 30))) .done .nil) .nil)))))))))] (bm Tryz.f108)⟩:=bg
theorem E.Hb:bf F.Hb ⟨79,[.tmp 2,.tmp 3,.tmp 4],bj Tryz.prog [] [(10,(.dk [aq 36 7,bl 37 2 11,bp 38 37,bD 39 (.uy (ae 38) (cf 0)),bD 40 (.wo (ae 39) (cf 4)),bD 41 (.bin .add T.a (cf 1) (ae 40)),fU .add T.a 42 36 41,aq 7 42]))] (bm Tryz.f109)⟩:=bg
theorem E.Hc:bf F.Hc ⟨34,[.tmp 2],bj Tryz.prog [] [(1,(.dk [aq 5 0,bD 6 (.bin .eql T.ad (ae 5) (.const qh)),aq 7 6,bT 7 false (aq 8 0),bT 7 false (bD 9 (.oK (ae 8))),bT 7 false (gZ .gtr T.a 10 9 16),oj 11 7 10,aq 12 11,bT 12 false (aq 13 0),bT 12 false (bD 14 (.mb (ae 13) (cf 0))),bT 12 false (bD 15 (.yZ .i32 (ae 14))),bT 12 false (cb 16 (.fn F.Dm [(ae 15)])),bT 12 false (bD 17 (.un .not (ae 16))),oj 18 12 17,aq 19 18,bT 19 false (aq 20 0),bT 19 false (cb 21 (.fn F.mY [(ae 20),(.func F.sx)])),bT 19 false (aq 22 0),bT 19 false (bD 23 (.oK (ae 22))),bT 19 false (fU .lss T.a 24 21 23),oj 25 19 24])),(5,(.dk [bD 29 (.x5 4 (ae 26) (ae 27)),aq 4 29]))] (bm Tryz.f110)⟩:=bg
theorem E.Hd:bf F.Hd ⟨15,[.tmp 4,.tmp 5],bj Tryz.prog [] [] (bm Tryz.f111)⟩:=bg
theorem E.Hf:bf F.Hf ⟨106,[.tmp 6],bj Tryz.prog [2,3,4] [] (bm Tryz.f112)⟩:=bg
theorem E.z:bf F.z ⟨39,[],bj Tryz.prog [] [] (bm Tryz.f113)⟩:=bg
theorem E.Hg:bf F.Hg ⟨32,[.tmp 4],bj Tryz.prog [] [] (bm Tryz.f114)⟩:=bg
theorem E.o1:bf F.o1 ⟨50,[.tmp 8],bj Tryz.prog [] [(5,(.dM (.wide (.take (bl 21 4 3) (.take (bp 22 21) (.take (bl 23 0 11) (.take (bp 24 23) (.take (bl 27 5 3) (.take (bp 28 27) (.take (bl 29 1 11) (.take (bp 30 29) (.alt (bN 25 (.fZ T.a 1 1 [cv] [(0,(ae 24))])) (.alt (bN 26 (.app T.b T.a 1 8 (ae 22) (ae 25))) (.take (bl 33 4 3) (.alt (bN 31 (.fZ T.a 1 1 [cv] [(0,(ae 30))])) (.bk (bN 32 (.app T.b T.a 1 8 (ae 28) (ae 31))) (.bk (ys 33 26) (.take (bl 34 5 3) (.bk (ys 34 32) .done .nil)) .nil) .nil) .nil)) (.alt (bN 31 (.fZ T.a 1 1 [cv] [(0,(ae 30))])) (.alt (bN 26 (.app T.b T.a 1 8 (ae 22) (ae 25))) (.take (bl 33 4 3) (.bk (bN 32 (.app T.b T.a 1 8 (ae 28) (ae 31))) (.bk (ys 33 26) (.take (bl 34 5 3) (.bk (ys 34 32) .done .nil)) .nil) .nil)) .nil) .nil)) (.alt (bN 31 (.fZ T.a 1 1 [cv] [(0,(ae 30))])) (.alt (bN 25 (.fZ T.a 1 1 [cv] [(0,(ae 24))])) (.alt (bN 26 (.app T.b T.a 1 8 (ae 22) (ae 25))) (.take (bl 33 4 3) (.bk (bN 32 (.app T.b T.a 1 8 (ae 28) (ae 31))) (.bk (ys 33 26) (.take (bl 34 5 3) (.bk (ys 34 32) .done .nil)) .nil) .nil)) .nil) .nil) .nil)))))))))))))] (bm Tryz.f116)⟩:=bg
theorem E.pM:bf F.pM ⟨18,[.tmp 4],bj Tryz.prog [] [] (bm Tryz.f117)⟩:=bg
theorem E.AW:bf F.AW ⟨19,[.jw 3 4],bj Tryz.prog [] [] (bm Tryz.f118)⟩:=bg
theorem E.ac:bf F.ac ⟨38,[],bj Tryz.prog [] [(4,(.dM (.take (bl 18 0 7) (.take (bp 19 18) (.take (bp 20 2) (.take (fU .eql T.a 21 19 20) (.take (aq 22 21) (.take (bT 22 true (ez 23 (.dY 5 (ae 1)))) (.take (bT 22 true (aq 24 5)) (.take (bT 22 true (ez 25 (.dY 2 (ae 7)))) (.take (bT 22 true (bp 28 3)) (.alt (bT 22 true (cb 26 (.fn F.g [(ae 23),(ae 24),(ae 25)]))) (.take (bT 22 true (bD 27 (.gh 1 (ae 26)))) (.take (bT 22 true (fU .eql T.a 29 27 28)) (.take (oR 30 22 29) (.take (aq 31 30) (.take (bT 31 true (aq 32 0)) (.take (bT 31 true (aq 33 6)) (.bk (bT 31 true (cb 34 (.val (ae 32) [(ae 33)]))) (.take (bT 31 true (bD 35 (.un .not (ae 34)))) (.take (oR 36 31 35) .done)) .nil))))))) .nil))))))))))))] (bm Tryz.f119)⟩:=bg
theorem E.dl:bf F.dl ⟨41,[.tmp 4],bj Tryz.prog [4,6] [] (bm Tryz.f120)⟩:=bg
theorem E.Hh:bf F.Hh ⟨61,[.tmp 4,.jw 6 5,.tmp 6],bj Tryz.prog [] [(6,(.dM (.take (ez 25 (.dY 5 (ae 2))) (.take (ez 26 (.dY 5 (ae 2))) (.take (ez 28 (.dY 5 (ae 2))) (.take (aq 30 7) (.take (aq 31 1) (.take (dE 32 2 30 31) (.take (bl 33 0 32) (.take (bp 34 33) (.alt (cb 27 (.fn F.a [(ae 26)])) (.alt (cb 29 (.fn F.b [(ae 28)])) (.take (bD 35 (.gg [cp,cp,cp,cp,cp,cp,cp,cp,cv,cp,cp,cp,cv] [(0,5),(5,6),(11,1),(12,1)] [(0,(ae 25)),(1,(ae 27)),(2,(ae 29)),(3,(ae 34))])) (.bk (bN 36 (.box T.kD (ae 35))) (.take (aq 8 36) .done) .nil)) .nil) .nil))))))))))),(7,(.dM (.take (aq 37 8) (.take (bl 38 3 2) (.take (bp 39 38) (.take (aq 40 8) (.take (bD 41 (.e3 (ae 40))) (.take (bl 42 11 41) (.take (bp 43 42) (.take (aq 44 8) (.take (bD 45 (.e3 (ae 44))) (.take (bl 46 12 45) (.take (bp 47 46) (.take (dE 48 2 43 47) (.take (bl 49 0 48) (.take (bp 50 49) (.take (dE 51 5 39 50) (.take (bl 52 4 51) (.take (bp 53 52) (.take (aq 54 7) (.take (aq 55 1) (.take (dE 56 2 54 55) (.take (bl 57 1 56) (.take (bp 58 57) (.take (dE 59 6 53 58) (.take (ez 60 (.dY 6 (ae 59))) (.take (aq 4 37) (.bk (e6 (.hz 6 (ae 5) (ae 60))) (.take (fe 6 (js true)) .done) .nil))))))))))))))))))))))))))))] (bm Tryz.f121)⟩:=bg
theorem E.f:bf F.f ⟨18,[],bj Tryz.prog [] [(3,(.dk [aq 11 0,aq 12 1,aq 13 6,fU .add T.a 14 12 13,ez 15 (.nv (.int .i64) cv false (ae 11) (ae 14)),gZ .add T.a 16 15 1,e6 (.jE (.int .i64) (ae 11) (ae 14) (ae 16))]))] (bm Tryz.f122)⟩:=bg
theorem E.t:bf F.t ⟨14,[.tmp 2],bj Tryz.prog [1] [] (bm Tryz.f123)⟩:=bg
theorem E.Hi:bf F.Hi ⟨9,[],bj Tryz.prog [] [] (bm Tryz.f124)⟩:=bg
theorem E.Hj:bf F.Hj ⟨40,[],bj Tryz.prog [] [(5,(.dM (.take (aq 17 1) (.take (aq 18 0) (.take (bD 19 (.e3 (ae 18))) (.take (bl 20 5 19) (.take (bl 21 1 20) (.take (bp 22 21) (.take (bl 23 1 5) (.take (bp 24 23) (.take (dE 25 1 22 24) (.take (bp 26 25) (.bk (cb 27 (.fn F.f [(ae 17),(ae 26),(cf 1)])) .done .nil)))))))))))))] (bm Tryz.f125)⟩:=bg
theorem E.Hk:bf F.Hk ⟨66,[],bj Tryz.prog [] [(5,(.dM (.take (aq 17 0) (.take (aq 18 1) (.take (bl 19 1 5) (.take (bp 20 19) (.take (bl 21 3 5) (.take (bp 22 21) (.take (j2 23 22) (.take (gZ .eql T.a 24 23 1) (.take (aq 25 24) (.take (bT 25 true (bl 26 3 5)) (.take (bT 25 true (bp 27 26)) (.take (bT 25 true (bD 28 (.mH 2 (ae 27) (cf 0)))) (.take (bT 25 true (bl 29 0 28)) (.take (bT 25 true (bp 30 29)) (.take (bT 25 true (gZ .eql T.a 31 30 5)) (.take (oR 32 25 31) (.bk (cb 33 (.fn F.u [(ae 17),(ae 18),(ae 20),(js true),(ae 32)])) .done .nil))))))))))))))))))),(7,(.dM (.take (aq 36 1) (.take (aq 37 0) (.take (bl 40 1 5) (.take (bp 41 40) (.alt (cb 38 (.fn F.t [(ae 37)])) (.take (gZ .add T.a 39 38 1) (.take (fU .add T.a 42 39 41) (.bk (cb 43 (.fn F.f [(ae 36),(ae 42),(cf 1)])) .done .nil))) .nil))))))),(12,(.dM (.take (aq 58 1) (.take (aq 59 0) (.take (bl 62 2 5) (.take (bp 63 62) (.alt (cb 60 (.fn F.t [(ae 59)])) (.take (gZ .add T.a 61 60 1) (.take (fU .add T.a 64 61 63) (.bk (cb 65 (.fn F.f [(ae 58),(ae 64),(cf 1)])) .done .nil))) .nil)))))))] (bm Tryz.f126)⟩:=bg
theorem E.qC:bf F.qC ⟨6,[.tmp 2],bj Tryz.prog [] [] (bm Tryz.f127)⟩:=bg
theorem E.ds:bf F.ds ⟨29,[.tmp 2],bj Tryz.prog [] [] (bm Tryz.f128)⟩:=bg
theorem E.Hm:bf F.Hm ⟨87,[],bj Tryz.prog [5] [] (bm Tryz.f129)⟩:=bg
theorem E.AX:bf F.AX ⟨6,[],bj Tryz.prog [] [] (bm Tryz.f130)⟩:=bg
theorem E.Hn:bf F.Hn ⟨17,[.tmp 2,.tmp 3],bj Tryz.prog [] [(3,(.dM (.take (ez 8 (.dY 5 (ae 1))) (.take (ez 9 (.dY 5 (ae 1))) (.take (ez 11 (.dY 5 (ae 1))) (.take (ez 13 (.dY 5 (ae 1))) (.alt (cb 10 (.fn F.a [(ae 9)])) (.alt (cb 12 (.fn F.b [(ae 11)])) (.alt (cb 14 (.fn F.c [(ae 13)])) (.take (bD 15 (.gg [cp,cp,cp,cp,cp,cp,cp,cp,cv,cp,cp,cp,cp] [(0,5),(5,6),(11,1),(12,1)] [(0,(ae 8)),(1,(ae 10)),(2,(ae 12)),(3,(ae 14))])) (.bk (bN 16 (.box T.df (ae 15))) (.take (aq 2 16) (.take (fe 3 (js true)) .done)) .nil)) .nil) .nil) .nil)))))))] (bm Tryz.f132)⟩:=bg
theorem E.Ho:bf F.Ho ⟨90,[.tmp 6,.tmp 7],bj Tryz.prog [4] [(1,(.dM (.take (aq 16 0) (.take (aq 17 2) (.take (aq 19 0) (.take (bD 20 (.e3 (ae 19))) (.take (bl 21 12 20) (.take (bp 22 21) (.take (aq 23 2) (.take (dE 24 2 22 23) (.take (bl 25 0 24) (.take (bp 26 25) (.alt (cb 18 (.fn F.h [(ae 16),(ae 17)])) (.alt (bN 8 (.new T.k (.agg #[qh,cv,cv,cp,cp,(.bool false)]))) (.alt (e6 (.hz 6 (ae 8) (ae 18))) (.take (aq 9 26) .done) .nil) .nil) (.alt (bN 8 (.new T.k (.agg #[qh,cv,cv,cp,cp,(.bool false)]))) (.alt (cb 18 (.fn F.h [(ae 16),(ae 17)])) (.alt (e6 (.hz 6 (ae 8) (ae 18))) (.take (aq 9 26) .done) .nil) .nil) .nil)))))))))))))),(16,(.dM (.take (aq 78 10) (.take (bD 79 (.e3 (ae 78))) (.take (bl 80 2 79) (.take (bp 81 80) (.take (aq 82 11) (.take (bl 83 2 8) (.take (bp 84 83) (.take (dE 85 1 81 82) (.bk (ys 85 84) .done .nil)))))))))))] (bm Tryz.f133)⟩:=bg
theorem E.be:bf F.be ⟨31,[.tmp 4],bj Tryz.prog [] [] (bm Tryz.f134)⟩:=bg
theorem E.h:bf F.h ⟨34,[.jw 6 4],bj Tryz.prog [] [(2,(.dM (.take (aq 13 0) (.take (bD 14 (.e3 (ae 13))) (.take (bl 15 0 14) (.take (bl 16 3 15) (.take (bp 17 16) (.take (aq 18 0) (.take (bD 19 (.e3 (ae 18))) (.take (bl 20 11 19) (.take (bp 21 20) (.take (bl 22 0 5) (.take (bp 23 22) (.take (dE 24 2 21 23) (.take (bl 25 0 24) (.take (bp 26 25) (.take (dE 27 5 17 26) (.take (bl 28 4 27) (.take (bp 29 28) (.take (bl 30 1 5) (.take (bp 31 30) (.take (dE 32 6 29 31) (.take (ez 33 (.dY 6 (ae 32))) (.bk (e6 (.hz 6 (ae 4) (ae 33))) .done .nil))))))))))))))))))))))))] (bm Tryz.f135)⟩:=bg
theorem E.Hp:bf F.Hp ⟨39,[.tmp 8],bj Tryz.prog [] [(4,(.dM (.take (aq 29 11) (.take (aq 30 12) (.take (aq 31 13) (.take (bD 32 (.hl 1 (ae 29) (some (ae 30)) (some (ae 31)) none)) (.take (aq 33 1) (.take (aq 34 12) (.take (aq 35 13) (.take (bD 36 (.hl 1 (ae 33) (some (ae 34)) (some (ae 35)) none)) (.bk (bN 37 (.raw (.call ⟨.builtin .copy,#[(ae 32),(ae 36)],#[T.b,T.b]⟩) T.a)) .done .nil)))))))))))] (bm Tryz.f136)⟩:=bg
theorem E.Jz:bf F.Jz ⟨26,[.tmp 2],bj Tryz.prog [] [] (bm Tryz.f143)⟩:=bg
theorem E.JJ:bf F.JJ ⟨100,[.tmp 4,.tmp 5],bj Tryz.prog [21] [] (bm Tryz.f144)⟩:=bg
theorem E.JE:bf F.JE ⟨61,[.tmp 6,.tmp 7],bj Tryz.prog [] [] (bm Tryz.f145)⟩:=bg
theorem E.JD:bf F.JD ⟨80,[.tmp 6,.tmp 7],bj Tryz.prog [] [] (bm Tryz.f146)⟩:=bg
theorem E.E9:bf F.E9 ⟨50,[.tmp 8],bj Tryz.prog [] [] (bm Tryz.f147)⟩:=bg
theorem E.JK:bf F.JK ⟨17,[.tmp 4,.tmp 5],bj Tryz.prog [2] [] (bm Tryz.f151)⟩:=bg
theorem E.J6:bf F.J6 ⟨7,[.tmp 2],bj Tryz.prog [] [] (bm Tryz.f152)⟩:=bg
theorem E.JP:bf F.JP ⟨69,[.tmp 4],bj Tryz.prog [5] [] (bm Tryz.f153)⟩:=bg
theorem E.E2:bf F.E2 ⟨37,[.tmp 4],bj Tryz.prog [] [] (bm Tryz.f154)⟩:=bg
theorem E.E3:bf F.E3 ⟨22,[.tmp 4],bj Tryz.prog [] [] (bm Tryz.f155)⟩:=bg
theorem E.JQ:bf F.JQ ⟨92,[.tmp 6,.tmp 7],bj Tryz.prog [15] [] (bm Tryz.f156)⟩:=bg
theorem E.Ju:bf F.Ju ⟨99,[.tmp 4,.tmp 5],bj Tryz.prog [] [(2,(.dk [aq 10 0,aq 11 1,bD 12 (.mb (ae 10) (ae 11)),cb 13 (.fn F.B4 [(ae 12)])])),(3,(.dk [aq 14 6,aq 15 0,bD 16 (.oK (ae 15)),fU .lss T.a 17 14 16,aq 18 17,bT 18 true (aq 19 0),bT 18 true (aq 20 6),bT 18 true (bD 21 (.mb (ae 19) (ae 20))),bT 18 true (cb 22 (.fn F.B4 [(ae 21)])),bT 18 true (aq 23 22),bT 23 false (aq 24 0),bT 23 false (aq 25 6),bT 23 false (bD 26 (.mb (ae 24) (ae 25))),bT 23 false (cb 27 (.fn F.zP [(ae 26)])),bT 18 true (oj 28 23 27),bT 18 true (aq 29 28),bT 29 false (aq 30 0),bT 29 false (aq 31 6),bT 29 false (bD 32 (.mb (ae 30) (ae 31))),bT 29 false (bD 33 (.bin .eql T.mW (ae 32) (.const (.int .u8 95)))),bT 18 true (oj 34 29 33),oR 35 18 34])),(6,(.dk [aq 41 0,aq 42 1,bD 43 (.mb (ae 41) (ae 42)),cb 44 (.fn F.zP [(ae 43)])])),(7,(.dk [aq 45 6,aq 46 0,bD 47 (.oK (ae 46)),fU .lss T.a 48 45 47,aq 49 48,bT 49 true (aq 50 0),bT 49 true (aq 51 6),bT 49 true (bD 52 (.mb (ae 50) (ae 51))),bT 49 true (cb 53 (.fn F.zP [(ae 52)])),oR 54 49 53])),(14,(.qD [aq 67 0,bD 68 (.oK (ae 67)),aq 69 1,fU .sub T.a 70 68 69,aq 71 7,aq 72 8,dE 73 1 71 72,bp 74 73,bD 75 (.oK (ae 74)),fU .geq T.a 76 70 75,aq 77 76,bT 77 true (aq 78 0),bT 77 true (aq 79 1),bT 77 true (aq 80 1),bT 77 true (aq 81 7),bT 77 true (aq 82 8),bT 77 true (dE 83 1 81 82),bT 77 true (bp 84 83),bT 77 true (bD 85 (.oK (ae 84))),bT 77 true (fU .add T.a 86 80 85),bT 77 true (bD 87 (.yn (ae 78) (some (ae 79)) (some (ae 86)))),bT 77 true (aq 88 7),bT 77 true (aq 89 8),bT 77 true (dE 90 1 88 89),bT 77 true (bp 91 90),bT 77 true (fU .eql T.ad 92 87 91),oR 93 77 92])),(15,(.dk [aq 94 7,aq 95 8,dE 96 1 94 95,bp 97 96,bD 98 (.oK (ae 97)),aq 4 98,fe 5 (cf 3)]))] (bm Tryz.f157)⟩:=bg
theorem E.JF:bf F.JF ⟨118,[.tmp 4,.tmp 5],bj Tryz.prog [27] [] (bm Tryz.f158)⟩:=bg
theorem E.JG:bf F.JG ⟨51,[.tmp 6,.tmp 7],bj Tryz.prog [] [] (bm Tryz.f159)⟩:=bg
theorem E.JI:bf F.JI ⟨27,[.tmp 6,.tmp 7],bj Tryz.prog [] [] (bm Tryz.f160)⟩:=bg
theorem E.bi:bf F.bi ⟨44,[.tmp 8,.tmp 9],bj Tryz.prog [] [(1,(.dk [bN 14 .ta,aq 10 14])),(12,(.dk [aq 34 10,aq 35 12,ez 36 (.nv .string (.bool false) false (ae 34) (ae 35)),aq 33 36])),(16,(.dk [aq 41 10,aq 42 12,e6 (.jE .string (ae 41) (ae 42) (js true))]))] (bm Tryz.f161)⟩:=bg
theorem E.AY:bf F.AY ⟨9,[.tmp 3],bj Tryz.prog [] [] (bm Tryz.f162)⟩:=bg
theorem E.Di:bf F.Di ⟨18,[.tmp 3],bj Tryz.prog [] [] (bm Tryz.f163)⟩:=bg
theorem E.mX:bf F.mX ⟨9,[.tmp 3],bj Tryz.prog [] [] (bm Tryz.f164)⟩:=bg
theorem E.ru:bf F.ru ⟨51,[.tmp 4],bj Tryz.prog [] [] (bm Tryz.f165)⟩:=bg
theorem E.d9:bf F.d9 ⟨18,[.tmp 4],bj Tryz.prog [] [] (bm Tryz.f166)⟩:=bg
theorem E.iT:bf F.iT ⟨23,[.tmp 4,.tmp 5],bj Tryz.prog [2] [] (bm Tryz.f167)⟩:=bg
theorem E.Hr:bf F.Hr ⟨22,[.tmp 4],bj Tryz.prog [] [] (bm Tryz.f168)⟩:=bg
theorem E.o3:bf F.o3 ⟨9,[.tmp 3],bj Tryz.prog [] [] (bm Tryz.f169)⟩:=bg
theorem E.cK:bf F.cK ⟨36,[.tmp 4],bj Tryz.prog [] [] (bm Tryz.f170)⟩:=bg
theorem E.Hs:bf F.Hs ⟨36,[.tmp 4],bj Tryz.prog [] [] (bm Tryz.f171)⟩:=bg
theorem E.Ht:bf F.Ht ⟨40,[.tmp 4,.tmp 5],bj Tryz.prog [] [] (bm Tryz.f172)⟩:=bg
theorem E.Dk:bf F.Dk ⟨12,[.jw 6 4],bj Tryz.prog [] [(1,(.dM (.take (bl 5 3 2) (.take (bl 7 1 2) (.bk (bp 6 5) (.take (bl 9 4 3) (.bk (bp 8 7) (.bk (ys 9 6) (.take (bl 10 5 3) (.bk (ys 10 8) .done .nil)) .nil) (.bk (ys 9 6) (.bk (bp 8 7) (.take (bl 10 5 3) (.bk (ys 10 8) .done .nil)) .nil) .nil))) (.bk (bp 8 7) (.bk (bp 6 5) (.take (bl 9 4 3) (.bk (ys 9 6) (.take (bl 10 5 3) (.bk (ys 10 8) .done .nil)) .nil)) .nil) .nil))))))] (bm Tryz.f173)⟩:=bg
theorem E.Hu:bf F.Hu ⟨60,[.tmp 6,.tmp 7],bj Tryz.prog [] [] (bm Tryz.f174)⟩:=bg
theorem E.vf:bf F.vf ⟨9,[.tmp 3],bj Tryz.prog [] [] (bm Tryz.f176)⟩:=bg
theorem E.Hv:bf F.Hv ⟨45,[.jw 6 2],bj Tryz.prog [] [(1,(.dM (.take (bl 6 0 1) (.take (bp 7 6) (.take (bl 9 1 1) (.take (bp 10 9) (.take (bl 12 2 1) (.take (bp 13 12) (.alt (cb 8 (.fn F.c8 [(ae 7)])) (.take (bl 15 0 1) (.alt (cb 11 (.fn F.dQ [(ae 10)])) (.bk (cb 14 (.fn F.gm [(ae 13)])) (.bk (ys 15 8) (.take (bl 16 1 1) (.bk (ys 16 11) (.take (bl 17 2 1) (.bk (ys 17 14) .done .nil)) .nil)) .nil) .nil) .nil)) .nil)))))))))] (bm Tryz.f177)⟩:=bg
theorem E.Dm:bf F.Dm ⟨17,[.tmp 2],bj Tryz.prog [] [] (bm Tryz.f178)⟩:=bg
theorem E.mY:bf F.mY ⟨20,[.tmp 4],bj Tryz.prog [] [(1,(.dk [aq 7 0,bN 8 (.yj (ae 7))])),(2,(.dk [bN 9 (.yc (ae 8)),bD 10 (.ext (ae 9) 0)])),(6,(.dk [aq 18 0,bD 19 (.oK (ae 18)),aq 4 19]))] (bm Tryz.f179)⟩:=bg
theorem E.sx:bf F.sx ⟨13,[.tmp 2],bj Tryz.prog [] [] (bm Tryz.f180)⟩:=bg
theorem E.Hw:bf F.Hw ⟨52,[.tmp 8,.tmp 9],bj Tryz.prog [] [] (bm Tryz.f181)⟩:=bg
theorem E.Hx:bf F.Hx ⟨12,[.tmp 4,.tmp 5],bj Tryz.prog [] [] (bm Tryz.f182)⟩:=bg
theorem E.Hy:bf F.Hy ⟨74,[.tmp 6,.tmp 7],bj Tryz.prog [] [] (bm Tryz.f183)⟩:=bg
theorem E.rA:bf F.rA ⟨33,[.tmp 4,.tmp 5],bj Tryz.prog [] [] (bm Tryz.f184)⟩:=bg
theorem E.pQ:bf F.pQ ⟨38,[.tmp 4,.tmp 5],bj Tryz.prog [] [] (bm Tryz.f185)⟩:=bg
theorem E.el:bf F.el ⟨7,[.tmp 2],bj Tryz.prog [] [] (bm Tryz.f186)⟩:=bg
theorem E.em:bf F.em ⟨21,[],bj Tryz.prog [] [] (bm Tryz.f187)⟩:=bg
theorem E.o4:bf F.o4 ⟨77,[],bj Tryz.prog [] [(7,(.dM (.take (bp 27 3) (.take (bp 28 2) (.take (bl 31 1 4) (.take (bp 32 31) (.alt (cb 29 (.fn F.t [(ae 28)])) (.take (gZ .add T.a 30 29 1) (.take (fU .add T.a 33 30 32) (.bk (cb 34 (.fn F.f [(ae 27),(ae 33),(cf 1)])) .done .nil))) .nil))))))),(9,(.dM (.take (bp 37 3) (.take (bp 38 2) (.take (bD 39 (.e3 (ae 38))) (.take (bl 40 5 39) (.take (bl 41 1 40) (.take (bp 42 41) (.take (bl 43 1 4) (.take (bp 44 43) (.take (dE 45 1 42 44) (.take (bp 46 45) (.bk (cb 47 (.fn F.f [(ae 37),(ae 46),(cf 1)])) .done .nil))))))))))))),(15,(.dM (.take (bp 66 3) (.take (bp 67 2) (.take (bD 68 (.e3 (ae 67))) (.take (bl 69 5 68) (.take (bl 70 2 69) (.take (bp 71 70) (.take (aq 72 6) (.take (dE 73 1 71 72) (.take (bp 74 73) (.bk (cb 75 (.fn F.f [(ae 66),(ae 74),(cf 1)])) .done .nil))))))))))))] (bm Tryz.f188)⟩:=bg
theorem E.u:bf F.u ⟨56,[],bj Tryz.prog [] [(2,(.dM (.take (aq 23 1) (.take (aq 24 10) (.take (aq 25 0) (.take (bD 26 (.e3 (ae 25))) (.take (bl 27 11 26) (.take (bp 28 27) (.take (aq 29 0) (.take (bD 30 (.e3 (ae 29))) (.take (bl 31 12 30) (.take (bp 32 31) (.take (dE 33 2 28 32) (.take (bl 34 1 33) (.take (bp 35 34) (.take (fU .add T.a 36 24 35) (.take (gZ .sub T.a 37 36 1) (.bk (cb 38 (.fn F.f [(ae 23),(ae 37),(cf 1)])) .done .nil)))))))))))))))))),(3,(.dM (.take (aq 39 1) (.take (aq 40 10) (.take (aq 41 0) (.take (bD 42 (.e3 (ae 41))) (.take (bl 43 0 42) (.take (bl 44 1 43) (.take (bp 45 44) (.take (aq 46 2) (.take (dE 47 6 45 46) (.take (ez 48 (.dY 6 (ae 47))) (.take (aq 49 0) (.take (bD 50 (.e3 (ae 49))) (.take (bl 51 0 50) (.take (bl 52 0 51) (.take (bp 53 52) (.bk (cb 54 (.fn F.pM [(ae 48),(ae 53)])) (.bk (cb 55 (.fn F.f [(ae 39),(ae 40),(ae 54)])) .done .nil) .nil))))))))))))))))))] (bm Tryz.f189)⟩:=bg
theorem E.h3:bf F.h3 ⟨26,[],bj Tryz.prog [] [(0,(.dM (.take (aq 6 1) (.take (aq 7 0) (.take (bD 8 (.e3 (ae 7))) (.take (bl 9 5 8) (.take (bl 10 1 9) (.take (bp 11 10) (.take (aq 12 2) (.take (dE 13 1 11 12) (.take (bp 14 13) (.take (aq 15 0) (.take (bD 16 (.e3 (ae 15))) (.take (bl 17 0 16) (.take (bl 18 2 17) (.take (bp 19 18) (.take (aq 20 2) (.take (dE 21 6 19 20) (.take (bl 22 2 21) (.take (bp 23 22) (.take (bD 24 (.bin .add T.a (cf 1) (ae 23))) (.bk (cb 25 (.fn F.f [(ae 6),(ae 14),(ae 24)])) .done .nil))))))))))))))))))))))] (bm Tryz.f190)⟩:=bg
theorem E.HA:bf F.HA ⟨18,[.tmp 4,.tmp 5],bj Tryz.prog [] [] (bm Tryz.f196)⟩:=bg
theorem E.HB:bf F.HB ⟨56,[.tmp 2],bj Tryz.prog [] [] (bm Tryz.f197)⟩:=bg
theorem E.eq:bf F.eq ⟨20,[.tmp 2,.tmp 3],bj Tryz.prog [5] [] (bm Tryz.f198)⟩:=bg
theorem E.tR:bf F.tR ⟨33,[.tmp 4,.tmp 5],bj Tryz.prog [1] [] (bm Tryz.f199)⟩:=bg
theorem E.JC:bf F.JC ⟨18,[.tmp 4,.tmp 5],bj Tryz.prog [] [] (bm Tryz.f207)⟩:=bg
theorem E.JA:bf F.JA ⟨4,[.tmp 2],bj Tryz.prog [] [] (bm Tryz.f208)⟩:=bg
theorem E.Jq:bf F.Jq ⟨14,[.tmp 4,.tmp 5],bj Tryz.prog [] [] (bm Tryz.f209)⟩:=bg
theorem E.Jo:bf F.Jo ⟨14,[.tmp 4,.tmp 5],bj Tryz.prog [] [] (bm Tryz.f210)⟩:=bg
theorem E.Jp:bf F.Jp ⟨14,[.tmp 4,.tmp 5],bj Tryz.prog [] [] (bm Tryz.f211)⟩:=bg
theorem E.JS:bf F.JS ⟨21,[.tmp 6],bj Tryz.prog [] [] (bm Tryz.f215)⟩:=bg
theorem E.JR:bf F.JR ⟨96,[.tmp 6],bj Tryz.prog [19] [] (bm Tryz.f216)⟩:=bg
theorem E.B4:bf F.B4 ⟨17,[.tmp 2],bj Tryz.prog [] [] (bm Tryz.f217)⟩:=bg
theorem E.zP:bf F.zP ⟨9,[.tmp 2],bj Tryz.prog [] [] (bm Tryz.f218)⟩:=bg
theorem E.Jv:bf F.Jv ⟨2,[.tmp 0],bj Tryz.prog [] [] (bm Tryz.f219)⟩:=bg
theorem E.JB:bf F.JB ⟨41,[.jw 6 6,.tmp 7],bj Tryz.prog [1] [] (bm Tryz.f220)⟩:=bg
theorem E.E1:bf F.E1 ⟨7,[.tmp 2],bj Tryz.prog [] [] (bm Tryz.f221)⟩:=bg
theorem E.Jw:bf F.Jw ⟨32,[.jw 6 4,.tmp 5],bj Tryz.prog [1] [] (bm Tryz.f222)⟩:=bg
theorem E.cn:bf F.cn ⟨9,[.tmp 3],bj Tryz.prog [] [] (bm Tryz.f224)⟩:=bg
theorem E.aI:bf F.aI ⟨28,[.tmp 4],bj Tryz.prog [] [] (bm Tryz.f225)⟩:=bg
theorem E.ba:bf F.ba ⟨23,[.tmp 6],bj Tryz.prog [] [] (bm Tryz.f226)⟩:=bg
theorem E.bG:bf F.bG ⟨11,[.tmp 2],bj Tryz.prog [] [] (bm Tryz.f227)⟩:=bg
theorem E.bU:bf F.bU ⟨85,[.tmp 4],bj Tryz.prog [] [] (bm Tryz.f228)⟩:=bg
theorem E.jQ:bf F.jQ ⟨47,[.tmp 2],bj Tryz.prog [] [(10,(.dM (.take (bl 26 3 8) (.take (bp 27 26) (.take (bl 29 4 8) (.take (bp 30 29) (.alt (cb 28 (.fn F.c3 [(ae 27)])) (.take (bl 32 3 8) (.bk (cb 31 (.fn F.c3 [(ae 30)])) (.bk (ys 32 28) (.take (bl 33 4 8) (.bk (ys 33 31) .done .nil)) .nil) .nil)) .nil)))))))] (bm Tryz.f233)⟩:=bg
theorem E.jh:bf F.jh ⟨9,[.tmp 2],bj Tryz.prog [] [] (bm Tryz.f234)⟩:=bg
theorem E.xx:bf F.xx ⟨14,[.tmp 0],bj Tryz.prog [] [(1,(.dk [bN 1 .ta,bD 2 (.gg [cv,cv,cv,.nilFunc] [(0,1),(1,1),(2,1),(3,1)] [(0,(cf 1)),(1,(cf 1)),(2,(cf 1)),(3,(.func F.iP))]),e6 (.jE (.int .i64) (ae 1) (cf 9) (ae 2)),bD 3 (.gg [cv,cv,cv,.nilFunc] [(0,1),(1,1),(2,1),(3,1)] [(0,(cf 1)),(1,(cf 0)),(2,(cf 0)),(3,(.func F.qx))]),e6 (.jE (.int .i64) (ae 1) (cf 10) (ae 3)),bD 4 (.gg [cv,cv,cv,.nilFunc] [(0,1),(1,1),(2,1),(3,1)] [(0,(cf 2)),(1,(cf 0)),(2,(cf 0)),(3,(.func F.qw))]),e6 (.jE (.int .i64) (ae 1) (cf 11) (ae 4)),bD 5 (.gg [cv,cv,cv,.nilFunc] [(0,1),(1,1),(2,1),(3,1)] [(0,(cf 2)),(1,(cf 0)),(2,(cf 0)),(3,(.func F.sA))]),e6 (.jE (.int .i64) (ae 1) (cf 12) (ae 5)),bD 6 (.gg [cv,cv,cv,.nilFunc] [(0,1),(1,1),(2,1),(3,1)] [(0,(cf 2)),(1,(cf 0)),(2,(cf 0)),(3,(.func F.sB))]),e6 (.jE (.int .i64) (ae 1) (cf 13) (ae 6)),cb 7 (.fn F.i [(cf (-1)),(.func F.am)]),e6 (.jE (.int .i64) (ae 1) (cf 14) (ae 7)),cb 8 (.fn F.i [(cf (-1)),(.func F.sD)]),e6 (.jE (.int .i64) (ae 1) (cf 15) (ae 8)),cb 9 (.fn F.i [(cf 0),(.func F.sE)]),e6 (.jE (.int .i64) (ae 1) (cf 16) (ae 9)),cb 10 (.fn F.i [(cf 0),(.func F.ap)]),e6 (.jE (.int .i64) (ae 1) (cf 17) (ae 10)),cb 11 (.fn F.i [(cf 1),(.func F.tI)]),e6 (.jE (.int .i64) (ae 1) (cf 18) (ae 11)),cb 12 (.fn F.i [(cf 1),(.func F.kD)]),e6 (.jE (.int .i64) (ae 1) (cf 19) (ae 12)),aq 13 1,aq 0 13]))] (bm Tryz.f235)⟩:=bg
end Go.Proofs.R
end