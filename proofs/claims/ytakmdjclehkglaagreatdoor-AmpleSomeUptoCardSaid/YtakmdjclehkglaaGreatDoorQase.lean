/- Parts. -/
import Derived.Test.YtakmdjclehkglaaGreatDoorQasd
import Derived.Test.YtakmdjclehkglaaGreatDoorChecked
set_option linter.all false
set_option maxRecDepth 100000
section
namespace o
open Go
structure ed where
 aR:Int
 U:Int
 kind:Int
structure Cell where
 sort:Int
 xv:Int
 place:Int
 aR:Int
 U:Int
 kind:Int
structure xH where
 vars:List Int
 aw:List Int
 insts:List Int
 cells:Int
 aR:List Int
 U:List Int
def kindOf(k:Int):Int:=if k=0 then 0 else k+1
def eY(kZ aR U:Int)(s:C_ Scalar):ed:=if kZ=0 then ⟨aR,U,0⟩ else ⟨0,size kZ s,kZ+1⟩
theorem zm(v:Var)(s:C_ Scalar):eY v.scalar v.aR v.U s=⟨(bounds v s).1,(bounds v s).2,kindOf v.scalar⟩:=by
 unfold eY bounds kindOf;by_cases h:v.scalar=0
 .rw[if_pos h,if_pos h,if_pos h]
 .rw[if_neg h,if_neg h,if_neg h]
def AU(s:C_ Scalar)(v:Var):C_ ed:=List.replicate (cells v s).toNat (eY v.scalar v.aR v.U s)
def lg(s:C_ Scalar)(c:dB):ed:=eY c.scalar (min c.aR 0) (max c.U 0) s
def nB(s:C_ Scalar)(c:dB):C_ ed:=⟨0,c.cap,0⟩ :: List.replicate c.cap.toNat (lg s c)
def vd(s:C_ Scalar)(p:dJ):C_ ed:=⟨0,p.cp - 1,0⟩ :: p.vars.map fun v=>eY v.scalar v.aR v.U s
def me(m:Model)(x:cX):C_ ed:=match nth m.procs x.proc with | some p=>vd m.scalars p | none=>[]
def fH(sort xv:Int):C_ ed->Nat->C_ Cell
 | [],_=>[]
 | b :: r,k=>⟨sort,xv,k,b.aR,b.U,b.kind⟩ :: fH sort xv r (k+1)
def cellsOf(sort:Int):C_ (C_ ed)->Nat->C_ Cell
 | [],_=>[]
 | l :: r,i=>fH sort i l 0++cellsOf sort r (i+1)
def total(ls:C_ (C_ ed)):Nat:=(ls.map List.length).sum
def ib(n:Nat):C_ (C_ ed)->C_ Int
 | []=>[]
 | l :: r=>(n:Int) :: ib (n+l.length) r
def c0(m:Model):C_ (C_ ed):=m.vars.map (AU m.scalars)
def dK(m:Model):C_ (C_ ed):=m.aw.map (nB m.scalars)
def fE(m:Model):C_ (C_ ed):=(insts m).map (me m)
def b1(m:Model):C_ Cell:=cellsOf 1 (c0 m) 0++cellsOf 2 (dK m) 0++cellsOf 3 (fE m) 0
def As(V C c8:C_ Int)(cs:C_ Cell):xH:=⟨V,C,c8,cs.length,cs.map (·.aR),cs.map (·.U)⟩
def layout(m:Model):xH:=As (ib 0 (c0 m)) (ib (total (c0 m)) (dK m)) (ib (total (c0 m)+total (dK m)) (fE m)) (b1 m)
def QQ:xH:=⟨[],[],[],0,[],[]⟩
def lay(m:Model):xH:=if (check m).cN=0 then layout m else QQ
theorem u3(s w:Int):∀(l:C_ ed) (k:Nat),(fH s w l k).length=l.length
 | [],_=>rfl
 | _ :: r,k=>by simp[fH,u3 s w r]
theorem Qx(s w:Int)(b:ed):∀(l:C_ ed) (k:Nat),fH s w (l++[b]) k=fH s w l k++[⟨s,w,(k+l.length:Nat),b.aR,b.U,b.kind⟩]
 | [],k=>by simp[fH]
 | x :: r,k=>by
  simp only[List.cons_append,fH,Qx s w b r,List.length_cons];rw[show k+1+r.length=k+(r.length+1) from AK]
theorem amj{s w:Int}{l:C_ ed}{k:Nat}(h:k<l.length):fH s w (l.take (k+1)) 0=fH s w (l.take k) 0++[⟨s,w,k,l[k].aR,l[k].U,l[k].kind⟩]:=by
 rw[Ly h,Qx];simp[List.length_take,Nat.min_eq_left (Nat.le_of_lt h)]
theorem lf(s:Int):∀(ls:C_ (C_ ed)) (i:Nat),(cellsOf s ls i).length=total ls
 | [],_=>rfl
 | l :: r,i=>by simp[cellsOf,u3,lf s r,total]
theorem zr(s:Int)(x:C_ ed):∀(ls:C_ (C_ ed)) (i:Nat),cellsOf s (ls++[x]) i=cellsOf s ls i++fH s (i+ls.length:Nat) x 0
 | [],i=>by simp[cellsOf]
 | l :: r,i=>by
  simp only[List.cons_append,cellsOf,zr s x r,List.length_cons,List.append_assoc];rw[show i+1+r.length=i+(r.length+1) from AK]
theorem arf(ls:C_ (C_ ed))(x:C_ ed):total (ls++[x])=total ls+x.length:=by simp[total]
theorem LL(x:C_ ed):∀(ls:C_ (C_ ed)) (n:Nat),ib n (ls++[x])=ib n ls++[((n+total ls:Nat):Int)]
 | [],n=>by simp[ib,total]
 | l :: r,n=>by
  simp only[List.cons_append,ib,LL x r,total,List.map_cons,List.sum_cons];rw[show n+l.length+(r.map List.length).sum=n+(l.length+(r.map List.length).sum) from AK]
theorem ud(n:Nat):∀(ls:C_ (C_ ed)),(ib n ls).length=ls.length:=by
 intro ls
 induction ls generalizing n with
 | nil=>rfl
 | cons l r fh=>simp[ib,fh]
theorem FH(m:Model):(b1 m).length=total (c0 m)+total (dK m)+total (fE m):=by simp[b1,lf,Nat.add_assoc]
def jo(s:Int):C_ Cell->Nat->C_ Int
 | [],_=>[]
 | x :: r,i=>(if x.place=0/\x.sort=s then [(i:Int)] else [])++jo s r (i+1)
theorem Ea(s:Int):∀(a b:C_ Cell) (i:Nat),jo s (a++b) i=jo s a i++jo s b (i+a.length)
 | [],b,i=>by simp[jo]
 | x :: r,b,i=>by
  simp only[List.cons_append,jo,Ea s r b,List.append_assoc,List.length_cons];rw[show i+1+r.length=i+(r.length+1) from AK]
theorem W6(s iN w:Int):∀(l:C_ ed) (k i:Nat),0<k->jo s (fH iN w l k) i=[]
 | [],_,_,_=>rfl
 | b :: r,k,i,h=>by
  simp only[fH,jo];rw[if_neg (by simp;omega),W6 s iN w r (k+1) (i+1) AK];rfl
theorem It(s:Int):∀(ls:C_ (C_ ed)) (i n:Nat),(∀l∈ls,l≠[])->jo s (cellsOf s ls i) n=ib n ls
 | [],_,_,_=>rfl
 | [] :: r,i,n,h=>absurd rfl (h [] Bs)
 | (b :: l) :: r,i,n,h=>by
  simp only[cellsOf,fH,List.cons_append,jo,Ea];rw[if_pos Bs,W6 s s i l 1 (n+1) AK,It s r (i+1) _ (fun l aC=>h l (by simp[aC]))];simp only[List.nil_append,ib,u3,List.singleton_append,List.length_cons];rw[show n+1+l.length=n+(l.length+1) from AK]
theorem zE(s iN:Int)(ak:s≠iN):∀(ls:C_ (C_ ed)) (i n:Nat),jo s (cellsOf iN ls i) n=[]
 | [],_,_=>rfl
 | l :: r,i,n=>by
  have key:∀(l:C_ ed) (k n:Nat),jo s (fH iN i l k) n=[]:=by
   intro l
   induction l with
   | nil=>intro k n;rfl
   | cons b r fh =>
    intro k n;simp only[fH,jo];rw[if_neg (by simp;exact fun _=>Ne.symm ak),fh];rfl
  simp only[cellsOf,Ea,key,zE s iN ak r,List.append_nil]
structure Dz(v:Var)(s:List Scalar):Prop where
 kZ:v.scalar=0\/size v.scalar s≠0
 eF:v.over=0\/size v.over s≠0
 Lb:v.scalar=0->narrow v.aR v.U=true
 aR:(bounds v s).1<=v.init
 U:v.init<=(bounds v s).2
structure Dc(c:dB)(s:List Scalar):Prop where
 kZ:c.scalar=0\/size c.scalar s≠0
 cap:1<=c.cap/\c.cap<=4
 Lb:c.scalar=0->narrow c.aR c.U=true
structure adO(p:dJ)(s:List Scalar):Prop where
 over:0<=p.over/\p.over<=s.length
 cp:1<=p.cp/\p.cp<=12
 gM:p.vars.length<=4/\p.cQ.length<=12
 var:∀v∈p.vars,Dz v s
structure eX(m:Model):Prop where
 gM:m.scalars.length<=2/\m.vars.length<=12/\m.aw.length<=4
 procs:m.procs.length<=6
 var:∀v∈m.vars,Dz v m.scalars
 chan:∀c∈m.aw,Dc c m.scalars
 proc:∀p∈m.procs,adO p m.scalars
 insts:(pieces m).1<=12
 cells:(pieces m).2.2<=64
theorem R1{k:Int}{s:C_ Scalar}(h:¬there k s=false):k=0\/size k s≠0:=by
 unfold there at h;by_cases af:k=0
 .exact .inl af
 .exact .inr (by simpa[af] using h)
theorem ac3{l:C_ Var}{s:C_ Scalar}{i:Nat}(U:i<l.length)(h:p7 l s i=0):Dz l[i] s:=by
 unfold p7 at h;rw[List.getElem?_eq_getElem U] at h;simp only at h;by_cases h1:there l[i].scalar s=false\/there l[i].over s=false
 .rw[if_pos h1] at h;cases h
 rw[if_neg h1] at h;by_cases I:(l[i].scalar=0/\narrow l[i].aR l[i].U=false)\/l[i].init<(bounds l[i] s).1\/l[i].init > (bounds l[i] s).2
 .rw[if_pos I] at h;cases h
 refine⟨R1 fun e=>h1 (.inl e),R1 fun e=>h1 (.inr e),fun af=>?_,?_,?_⟩
 .cases az:narrow l[i].aR l[i].U with
  | true=>rfl
  | false=>exact absurd (.inl ⟨af,az⟩) I
 .exact Int.not_lt.1 fun e=>I (.inr (.inl e))
 .exact Int.not_lt.1 fun e=>I (.inr (.inr e))
theorem afq{l:C_ dB}{s:C_ Scalar}{i:Nat}(U:i<l.length)(h:pL l s i=0):Dc l[i] s:=by
 unfold pL at h;rw[List.getElem?_eq_getElem U] at h;simp only at h;by_cases h1:there l[i].scalar s=false
 .rw[if_pos h1] at h;cases h
 rw[if_neg h1] at h;by_cases I:l[i].cap<1\/l[i].cap > 4\/(l[i].scalar=0/\narrow l[i].aR l[i].U=false)
 .rw[if_pos I] at h;cases h
 refine⟨R1 h1,AK,fun af=>?_⟩;cases az:narrow l[i].aR l[i].U with
 | true=>rfl
 | false=>exact absurd (.inr (.inr ⟨af,az⟩)) I
theorem NK{fP:Int}{gh:Nat->ByteArray}{mo:Nat->Int}{i:Nat}(h:err fP gh mo i=0):mo i=0:=by
 unfold err at h;split at h
 .cases h
 .split at h
  .cases h
  .split at h
   .cases h
   .exact h
theorem j3{m:Model}(h:(check m).cN=0):eX m:=by
 unfold check at h;by_cases bb:(data m).cN≠0
 .rw[if_pos bb] at h;exact absurd h bb
 rw[if_neg bb] at h;have bb:(data m).cN=0:=by simpa using bb
 by_cases au:(mL m).cN≠0
 .rw[if_pos au] at h;exact absurd h au
 have au:(mL m).cN=0:=by simpa using au
 obtain⟨h1,I,ab⟩:=Wg bb;obtain⟨dM,et,eB⟩:=Ra au;refine⟨H0 bb,?_,fun v aG=>?_,fun c an=>?_,fun p akP=>?_,et,eB⟩
 .apply Classical.byContradiction;intro az
  have:=Ik (i:=6) AK (dM 6 AK)
  omega
 .obtain⟨i,U,rfl⟩:=List.mem_iff_getElem.1 aG;exact ac3 U (NK (L1 (I i U)))
 .obtain⟨i,U,rfl⟩:=List.mem_iff_getElem.1 an;exact afq U (NK (HR (ab i U)))
 .obtain⟨i,U,rfl⟩:=List.mem_iff_getElem.1 akP;obtain⟨_,cE,_,_⟩:=D6 U (dM i U);have ak:(ht m i).scalars=m.scalars:=by
   unfold ht;split<;>rfl
  obtain⟨f1,f2,f3,f4,_⟩:=Q8 cE;have f5:(vars m.procs[i].vars m.scalars 4).2=0:=by
   apply Classical.byContradiction;intro az;unfold lS at f4;rw[ak,if_pos az] at f4;exact az f4
  unfold whole at f3;rw[ak] at f3;split at f3
  .cases f3
  .split at f3
   .cases f3
   .split at f3
    .cases f3
    .exact⟨AK,AK,⟨f1,f2⟩,fun v aG=>by
      obtain⟨j,aF,rfl⟩:=List.mem_iff_getElem.1 aG;exact ac3 aF (NK (we f5 j aF))⟩
theorem aaH{aR U:Int}(h:narrow aR U=true) : -1048576<=aR/\aR<=U/\U<=1048576/\U - aR<256:=by
 unfold narrow at h;exact of_decide_eq_true h
theorem afj{v:Var}{s:C_ Scalar}(h:Dz v s):1<=cells v s:=by
 have:=size_le v.over s
 have:=h.eF
 unfold cells;split<;>omega
theorem C0(s:C_ Scalar)(v:Var):(AU s v).length=(cells v s).toNat:=by simp[AU]
theorem vT(s:C_ Scalar)(c:dB):(nB s c).length=1+c.cap.toNat:=by simp[nB];omega
theorem Am{m:Model}{x:cX}(h:x.of m):∃(i:Nat) (U:i<m.procs.length),x.proc=i/\me m x=vd m.scalars m.procs[i]:=by
 refine⟨x.proc.toNat,by have:=h.U;have:=h.aR;omega,by have:=h.aR;omega,?_⟩;unfold me;rw[iM h.aR (by exact_mod_cast h.U)]
theorem arB{m:Model}(h:eX m):∀l∈c0 m,l≠[]:=fun l aC=>by
 obtain⟨v,aG,rfl⟩:=List.mem_map.1 aC
 have:=afj (h.var v aG)
 intro e
 have:=congrArg List.length e
 rw[C0] at this;simp at this;omega
theorem aeW(m:Model):∀l∈dK m,l≠[]:=fun l aC=>by
 obtain⟨v,aG,rfl⟩:=List.mem_map.1 aC;simp[nB]
theorem alJ(m:Model):∀l∈fE m,l≠[]:=fun l aC=>by
 obtain⟨v,aG,rfl⟩:=List.mem_map.1 aC;obtain⟨i,U,_,e⟩:=Am (rC v aG);rw[e];simp[vd]
theorem ahu{m:Model}(h:eX m):jo 1 (b1 m) 0=ib 0 (c0 m)/\jo 2 (b1 m) 0=ib (total (c0 m)) (dK m)/\jo 3 (b1 m) 0=ib (total (c0 m)+total (dK m)) (fE m):=by
 unfold b1;simp only[Ea,lf,List.length_append,Nat.zero_add];refine⟨?_,?_,?_⟩
 .rw[It 1 _ 0 0 (arB h),zE 1 2 BN,zE 1 3 BN];simp
 .rw[It 2 _ 0 _ (aeW m),zE 2 1 BN,zE 2 3 BN];simp
 .rw[It 3 _ 0 _ (alJ m),zE 3 1 BN,zE 3 2 BN];simp
theorem RU(x:Int)(l:C_ Int):jh (x :: l)=x+jh l:=by
 have key:∀(l:C_ Int) (a:Int),l.foldl (· + ·) a=a+l.foldl (· + ·) 0:=by
  intro l
  induction l with
  | nil=>intro a;simp
  | cons y r fh =>
   intro a;simp only[List.foldl_cons];rw[fh (a+y),fh (0+y)];omega
 unfold jh;rw[List.foldl_cons,key];omega
theorem GM(l:C_ ed)(r:C_ (C_ ed)):total (l :: r)=l.length+total r:=by simp[total]
theorem GL(a b:C_ (C_ ed)):total (a++b)=total a+total b:=by simp[total]
theorem acT(s:C_ Scalar):∀l:C_ Var,(total (l.map (AU s)):Int)=jh (l.map fun v=>cells v s)
 | []=>rfl
 | v :: r=>by
  rw[AG1,GM,AG1,RU,<-acT s r,C0]
  have:=(r7 v s).1
  omega
theorem acQ(s:C_ Scalar):∀l:C_ dB,(∀c∈l,Dc c s)->(total (l.map (nB s)):Int)=jh (l.map q4)
 | [],_=>rfl
 | c :: r,h=>by
  rw[AG1,GM,AG1,RU,<-acQ s r (fun x ag=>h x (by simp[ag])),vT]
  have:=(h c Bs).cap
  unfold q4;omega
theorem AG(s:C_ Scalar)(p:dJ):(vd s p).length=1+p.vars.length:=by simp[vd];omega
theorem ago(m:Model)(i:Nat)(p:dJ)(h:0<=p.over):(((jA i p).length+elems m p:Nat):Int)=lA m p:=by
 unfold jA lA elems;by_cases af:p.over=0
 .rw[if_pos af,if_pos af,gX (.inl AK)];rfl
 .rw[if_neg af,if_neg af];unfold size;by_cases h1:p.over - 1<m.scalars.length
  .rw[iM AK h1,List.getElem?_eq_getElem AK];simp only;by_cases I:(m.scalars[(p.over - 1).toNat]' AK).size<1\/4<(m.scalars[(p.over - 1).toNat]' AK).size
   .rw[if_pos I,if_neg AK];rfl
   .rw[if_neg I,if_pos AK];simp only[List.length_nil];omega
  .rw[gX (.inr AK),List.getElem?_eq_none AK];rfl
theorem acR(m:Model):∀(l:C_ dJ) (i:Nat),m.procs.drop i=l->(∀p∈l,0<=p.over)->(total ((j1 m l i).map (me m)):Int)=jh (l.map fun p=>lA m p*(1+p.vars.length))
 | [],_,_,_=>rfl
 | p :: r,i,bb,h=>by
  have U:i<m.procs.length:=by
   apply Classical.byContradiction;intro az;rw[AF0 AK] at bb;cases bb
  rw[AF2 U] at bb;injection bb with au aP
  have ao:∀x:cX,x.proc=i->(me m x).length=1+p.vars.length:=fun x ag=>by
   unfold me;rw[ag,iM AK AK];simp only[Int.toNat_natCast];rw[au,AG]
  have dI:∀l:C_ cX,(∀x∈l,x.proc=i)->total (l.map (me m))=l.length*(1+p.vars.length):=by
   intro l
   induction l with
   | nil=>intro _;simp[total]
   | cons x r fh =>
    intro h;rw[AG1,GM,fh (fun y bV=>h y (by simp[bV])),ao x (h x Bs),AG2,AH2];omega
  have h1:∀x∈jA i p++j6 i (elems m p),x.proc=i:=fun x ag=>by
   rcases List.mem_append.1 ag with ag | ag
   .unfold jA at ag;split at ag
    .rw[AG0] at ag;rw[ag]
    .cases ag
   .unfold j6 at ag;obtain⟨k,_,rfl⟩:=List.mem_map.1 ag;rfl
  rw[j1,AF4,GL,dI _ h1,AG1,RU,<-acR m r (i+1) aP (fun x ag=>h x (by simp[ag])),<-ago m i p (h p Bs)];rw[Ln,show(j6 i (elems m p)).length=elems m p from by simp[j6]];simp only[Int.natCast_add,Int.natCast_mul];rfl
theorem J7{m:Model}(h:eX m):((b1 m).length:Int)=(pieces m).2.2:=by
 rw[FH];have bB:=acT m.scalars m.vars;have aJ:=acQ m.scalars m.aw h.chan;have a7:=acR m m.procs 0 Bs (fun p au=>(h.proc p au).over.1);unfold pieces;simp only;rw[<-bB,<-aJ,<-a7];simp only[c0,dK,fE,insts];omega
def W2(l:xH)(s:Int):C_ Int:=if s=3 then l.insts else if s=2 then l.aw else l.vars
structure asg(m:Model)(c:Nat)(x:Cell):Prop where
 sort:1<=x.sort/\x.sort<=3
 xv:0<=x.xv/\x.xv<(W2 (layout m) x.sort).length
 at_:(W2 (layout m) x.sort)[x.xv.toNat]? = some ((c:Int) - x.place)
 place:0<=x.place/\x.place<=c
 le:x.aR<=x.U
 chan:x.sort=2->x.aR<=0/\0<=x.U
theorem amn{m:Model}{c:Nat}(h1:total (c0 m)<=c)(h:c<total (c0 m)+total (dK m)):(b1 m)[c]? = (cellsOf 2 (dK m) 0)[c - total (c0 m)]? := by
 unfold b1;rw[List.getElem?_append_left (by rw[Ln,lf,lf];omega),List.getElem?_append_right (by rw[lf];exact h1),lf]
theorem amp{m:Model}{c:Nat}(h1:total (c0 m)+total (dK m)<=c):(b1 m)[c]? = (cellsOf 3 (fE m) 0)[c - (total (c0 m)+total (dK m))]? := by
 unfold b1;rw[List.getElem?_append_right (by rw[Ln,lf,lf];exact h1),Ln,lf,lf]
theorem GN{ls:C_ (C_ ed)}{i:Nat}(h:i<ls.length):total (ls.take (i+1))=total (ls.take i)+ls[i].length:=by
 rw[Ly h,arf]
theorem arh(ls:C_ (C_ ed))(i:Nat):total (ls.take i)<=total ls:=by
 have e:total ls=total (ls.take i)+total (ls.drop i):=by rw[<-GL,AH3]
 omega
theorem RY{ls:C_ (C_ ed)}{i:Nat}(h:i<ls.length):total (ls.take i)+ls[i].length<=total ls:=by
 rw[<-GN h];exact arh _ _
end o
end
section
namespace ba
open Go
def vl:H_ TypeInfo->Nat | some i=>i.size | none=>0
def MZ:H_ TypeInfo->Nat | some i=>i.bytes | none=>0
def adt:H_ B_->B_ | some v=>v | none=>undef
def GZ:H_ TypeInfo->B_ | some i=>adt i.zero | none=>undef
def Ng:B_->C_ B_ | .agg cs=>cs.toList | v=>[v]
def J1:H_ TypeDesc->Bool | some (.struct _)=>true | some (.array _ _)=>true | _=>false
def DF{α:Type}(d:α):C_ α->Nat->α
 | [],_=>d
 | x :: _,0=>x
 | _ :: r,n+1=>DF d r n
def aaP:Field:={ name := "",type:=0,offset:=0,embedded:=false,tag := "",pkgPath := "",byteOffset:=0 }
def IB:H_ TypeDesc->C_ Field | some (.struct gd)=>gd.toList | _=>[]
def Lg(d:H_ TypeDesc)(f:Nat):Nat:=(DF aaP (IB d) f).offset
def N0(d:H_ TypeDesc)(f:Nat):F_:=(DF aaP (IB d) f).type
def q8:H_ TypeDesc->F_ | some (.slice e)=>e | _=>0
def VP(P:D_)(l:C_ G_)(cD:C_ F_):Callee->Ins
 | .value (.func f)=>.c (.fn f l)
 | .value (.tmp x)=>.c (.val (.tmp x) l)
 | .invoke x m=>.c (.inv x m l)
 | .builtin .append=>(match l,cD with | [s,x],t :: _=>.e (.app t (q8 (P.underlying t)) (vl P.types[q8 (P.underlying t)]?) (MZ P.types[q8 (P.underlying t)]?) s x) | _,_=>.p (.np (.tmp 0)))
 | _=>(match l with | [x]=>.p (.Au x) | _=>.p (.np (.tmp 0)))
def Q4(P:D_):C_ Field->C_ (Nat×Nat)
 | []=>[]
 | f :: r=>(f.offset,vl P.types[f.type]?) :: Q4 P r
def ML:C_ B_->C_ B_->C_ B_
 | [],r=>r
 | x :: l,r=>x :: ML l r
def RA:Nat->C_ B_->C_ B_
 | 0,_=>[]
 | n+1,l=>ML l (RA n l)
def ZF(P:D_):Op->Ins
 | .move x=>.p (.np x)
 | .assign x=>.p (.np x)
 | .pick c a b=>.p (.pick c a b)
 | .binOp op t x y _=>.p (.bin op t x y)
 | .unOp op _ x=>.p (.un op x)
 | .extract x i=>.p (.ext x i)
 | .nilCheck x=>.p (.fo x)
 | .makeFunc (.func f) a b=>.p (.u6 f a.toList b.toList)
 | .fieldAddr s x f=>.p (.lo (Lg (P.underlying s) f) x)
 | .indexAddr t x i=>.p (.mH (vl P.types[q8 (P.underlying t)]?) x i)
 | .slice t x l h m=>.p (.gJ (vl P.types[q8 (P.underlying t)]?) x l h m)
 | .field t x f=>bif J1 (P.underlying (N0 (P.underlying t) f)) then .p (.BM (Lg (P.underlying t) f) (vl P.types[N0 (P.underlying t) f]?) x) else .p (.gN (Lg (P.underlying t) f) x)
 | .build t dd=>.p (.gl (Ng (GZ P.types[t]?)) (Q4 P (IB (P.underlying t))) dd.toList)
 | .buildSlice t n dd=>.e (.gb (q8 (P.underlying t)) n (vl P.types[q8 (P.underlying t)]?) (RA n (Ng (GZ P.types[q8 (P.underlying t)]?))) dd.toList)
 | .makeSlice t l c=>.e (.u7 (q8 (P.underlying t)) (vl P.types[q8 (P.underlying t)]?) (MZ P.types[q8 (P.underlying t)]?) (GZ P.types[q8 (P.underlying t)]?) l c)
 | .makeInterface t x=>.p (.Az t x)
 | .load t x=>bif J1 (P.underlying t) then .r (.di (vl P.types[t]?) x) else .r (.ld x)
 | .store t x v=>bif J1 (P.underlying t) then .e (.gY (vl P.types[t]?) x v) else .e (.st x v)
 | .box t x=>.e (.box t x)
 | .alloc t=>.e (.new t (GZ P.types[t]?))
 | .call c=>VP P c.args.toList c.argTypes.toList c.callee
 | _=>.p (.np (.tmp 0))
def H7:C_ Oper->C_ (H_ Nat)
 | []=>[]
 | ae :: r=>ae.dst :: H7 r
def Xk(b:Bool):H_ Nat->H_ (Nat×Bool)
 | none=>none
 | some t=>some (t,b)
def Xj(ds:C_ (H_ Nat)):H_ (Nat×Bool)->H_ (Nat×Bool)
 | none=>none
 | some (j,b)=>Xk b (DF none ds j)
def Lr(P:D_)(ds:C_ (H_ Nat)):C_ Oper->C_ Step
 | []=>[]
 | ae :: r=>⟨ae.dst,Xj ds ae.guard,ZF P ae.op⟩ :: Lr P ds r
def QE(id:Nat):C_ (Nat×eN)->H_ eN
 | []=>none
 | (i,c) :: r=>if i=id then some c else QE id r
def QH(id:Nat):C_ Nat->Bool
 | []=>false
 | x :: r=>if x=id then true else QH id r
def abQ(P:D_)(ops:C_ Oper):H_ eN->Bool->eN
 | some c,_=>c
 | none,true=>.q6 (Lr P (H7 ops) ops)
 | none,false=>.dv (Lr P (H7 ops) ops)
def bj(P:D_)(q5:C_ Nat)(yV:C_ (Nat×eN)):Code->eN
 | .region id ops _=>abQ P ops.toList (QE id yV) (QH id q5)
 | .seq a b=>.seq (bj P q5 yV a) (bj P q5 yV b)
 | .cond c a b=>.cond c (bj P q5 yV a) (bj P q5 yV b)
 | .block id b=>.cx id (bj P q5 yV b)
 | .loop b=>.loop (bj P q5 yV b)
 | .exit id=>.exit id
 | .ret=>.ret
 | .scope b=>bj P q5 yV b
 | _=>.skip
def bm(fn:Func):Code:=match fn.body with | some c=>c | none=>.skip
theorem aew{α:Type}(a b:α):(bif true then a else b)=a:=rfl
theorem aev{α:Type}(a b:α):(bif false then a else b)=b:=rfl
section
variable{P:Program}{w:World}
theorem AE6{f:E_}{L:mW}{c:eN}(hm:P.follows .mixedOrders=true)(an:lH P f=some L)(e:L.code=c){args:C_ B_}{R:B_->A_->Prop}(aV:args.length<=L.n)(h:eg P c (ra L.res R ⟨⟩) (h5 args 0) w ⟨⟩):aY P f args.toArray w R:=by
 subst e;exact _h hm an aV h
theorem _o{f:E_}{L:mW}{c:eN}(hm:P.follows .mixedOrders=true)(an:lH P f=some L)(e:L.code=c){args:C_ B_}{R:B_->A_->Prop}{Z:C_ PanicEntry->A_->Prop}(aV:args.length<=L.n)(h:eg P c (v7 L.res R Z ⟨⟩) (h5 args 0) w ⟨⟩):qY P f args.toArray w R Z:=by
 subst e;exact AA9 hm an aV h
end
end ba
end
section
namespace Go.Proofs.R
open Go ba Go.Proofs
abbrev T.z:F_:=0
abbrev T.a:F_:=3
abbrev T.ae:F_:=4
abbrev T.a5:F_:=5
abbrev T.p:F_:=9
abbrev T.as:F_:=20
abbrev T.hd:F_:=21
abbrev T.r3:F_:=22
abbrev T.sV:F_:=23
abbrev T.sW:F_:=24
abbrev T.vL:F_:=25
abbrev T.pH:F_:=26
abbrev T.d:F_:=28
abbrev T.b:F_:=29
abbrev T.pG:F_:=34
abbrev T.c:F_:=36
abbrev T.k:F_:=39
abbrev T.f:F_:=42
abbrev T.r2:F_:=43
abbrev T.i:F_:=47
abbrev T.x:F_:=50
abbrev T.g:F_:=55
abbrev T.u:F_:=57
abbrev T.vM:F_:=58
abbrev T.m:F_:=60
abbrev T.om:F_:=61
abbrev T.l:F_:=63
abbrev T.e:F_:=65
abbrev T.h:F_:=72
abbrev T.y:F_:=74
abbrev T.n:F_:=76
abbrev T.auO:F_:=80
abbrev T.ij:F_:=101
abbrev T.pE:F_:=102
abbrev T.pF:F_:=103
abbrev T.Bu:F_:=105
abbrev T.oi:F_:=111
abbrev T.a9:F_:=114
abbrev T.Vx:F_:=121
abbrev T.q1:F_:=126
abbrev T.HH:F_:=133
abbrev T.t:F_:=140
abbrev T.v:F_:=144
abbrev T.avh:F_:=148
abbrev T.tJ:F_:=151
abbrev T.asH:F_:=155
abbrev T.w:F_:=161
abbrev T.Vy:F_:=165
abbrev T.zi:F_:=172
abbrev T.uv:F_:=175
abbrev T.asI:F_:=179
abbrev T.j:F_:=181
abbrev T.r:F_:=183
abbrev T.gD:F_:=186
abbrev T.s:F_:=190
abbrev T.a0:F_:=202
abbrev T.ac:F_:=221
abbrev T.asJ:F_:=238
abbrev T.db:F_:=239
abbrev T.ny:F_:=242
abbrev T.a2:F_:=247
abbrev T.jG:F_:=252
abbrev T.a3:F_:=263
abbrev T.bi:F_:=265
abbrev T.a4:F_:=268
abbrev T.sY:F_:=307
abbrev T.am:F_:=308
abbrev T.s0:F_:=309
abbrev T.s3:F_:=310
abbrev T.ap:F_:=311
abbrev T.asK:F_:=326
abbrev F.F6:E_:=5
abbrev F.HS:E_:=8
abbrev F.F7:E_:=10
abbrev F.K7:E_:=11
abbrev F.a0:E_:=12
abbrev F.Ay:E_:=14
abbrev F.Cv:E_:=15
abbrev F.Kg:E_:=16
abbrev F.KN:E_:=19
abbrev F.db:E_:=22
abbrev F.co:E_:=23
abbrev F.c:E_:=24
abbrev F.b:E_:=25
abbrev F.a:E_:=26
abbrev F.oi:E_:=27
abbrev F.x2:E_:=28
abbrev F.x3:E_:=29
abbrev F.gp:E_:=30
abbrev F.cs:E_:=32
abbrev F.j:E_:=33
abbrev F.e:E_:=34
abbrev F.K3:E_:=35
abbrev F.K5:E_:=36
abbrev F.K4:E_:=37
abbrev F.FT:E_:=38
abbrev F.FQ:E_:=39
abbrev F.F0:E_:=40
abbrev F.K6:E_:=41
abbrev F.KH:E_:=42
abbrev F.Cw:E_:=43
abbrev F.F2:E_:=44
abbrev F.FV:E_:=46
abbrev F.KQ:E_:=47
abbrev F.KR:E_:=48
abbrev F.KP:E_:=49
abbrev F.KS:E_:=50
abbrev F.KV:E_:=52
abbrev F.pE:E_:=55
abbrev F.pF:E_:=56
abbrev F.a9:E_:=57
abbrev F.bu:E_:=58
abbrev F.bC:E_:=59
abbrev F.gD:E_:=60
abbrev F.r5:E_:=61
abbrev F.o1:E_:=62
abbrev F.la:E_:=63
abbrev F.hd:E_:=64
abbrev F.DM:E_:=65
abbrev F.ac:E_:=66
abbrev F.Bu:E_:=67
abbrev F.g:E_:=68
abbrev F.be:E_:=69
abbrev F.zp:E_:=70
abbrev F.ae:E_:=71
abbrev F.u:E_:=72
abbrev F.By:E_:=73
abbrev F.th:E_:=74
abbrev F.ti:E_:=75
abbrev F.H3:E_:=80
abbrev F.DZ:E_:=81
abbrev F.FZ:E_:=82
abbrev F.KM:E_:=83
abbrev F.FM:E_:=84
abbrev F.FW:E_:=85
abbrev F.F1:E_:=86
abbrev F.F3:E_:=87
abbrev F.KT:E_:=88
abbrev F.KD:E_:=89
abbrev F.KE:E_:=90
abbrev F.w7:E_:=91
abbrev F.w6:E_:=92
abbrev F.KC:E_:=93
abbrev F.FR:E_:=94
abbrev F.FU:E_:=95
abbrev F.KB:E_:=96
abbrev F.KO:E_:=97
abbrev F.Kk:E_:=98
abbrev F.Ko:E_:=99
abbrev F.KX:E_:=100
abbrev F.KY:E_:=101
abbrev F.H5:E_:=102
abbrev F.d:E_:=103
abbrev F.q5:E_:=104
abbrev F.p:E_:=105
abbrev F.ds:E_:=106
abbrev F.cP:E_:=107
abbrev F.DP:E_:=108
abbrev F.H8:E_:=109
abbrev F.H9:E_:=110
abbrev F.Ia:E_:=111
abbrev F.Ib:E_:=112
abbrev F.ny:E_:=113
abbrev F.zy:E_:=114
abbrev F.BR:E_:=115
abbrev F.r3:E_:=116
abbrev F.sV:E_:=117
abbrev F.vO:E_:=118
abbrev F.sW:E_:=119
abbrev F.vX:E_:=120
abbrev F.Ic:E_:=121
abbrev F.f:E_:=122
abbrev F.v:E_:=123
abbrev F.d0:E_:=124
abbrev F.d1:E_:=125
abbrev F.d2:E_:=126
abbrev F.d3:E_:=127
abbrev F.d4:E_:=128
abbrev F.d5:E_:=129
abbrev F.DR:E_:=130
abbrev F.q:E_:=131
abbrev F.d6:E_:=132
abbrev F.d7:E_:=133
abbrev F.nz:E_:=134
abbrev F.h:E_:=135
abbrev F.d8:E_:=136
abbrev F.IP:E_:=142
abbrev F.Kp:E_:=143
abbrev F.Kz:E_:=144
abbrev F.Ku:E_:=145
abbrev F.Kt:E_:=146
abbrev F.FX:E_:=147
abbrev F.K1:E_:=148
abbrev F.yB:E_:=149
abbrev F.K0:E_:=150
abbrev F.KA:E_:=151
abbrev F.KU:E_:=152
abbrev F.KF:E_:=153
abbrev F.FO:E_:=154
abbrev F.FP:E_:=155
abbrev F.KG:E_:=156
abbrev F.Kl:E_:=157
abbrev F.Kv:E_:=158
abbrev F.Kw:E_:=159
abbrev F.Ky:E_:=160
abbrev F.DS:E_:=161
abbrev F.bv:E_:=162
abbrev F.c9:E_:=163
abbrev F.pG:E_:=164
abbrev F.ij:E_:=165
abbrev F.hq:E_:=166
abbrev F.Ii:E_:=167
abbrev F.Ij:E_:=168
abbrev F.bM:E_:=169
abbrev F.kM:E_:=170
abbrev F.eq:E_:=171
abbrev F.qm:E_:=172
abbrev F.my:E_:=173
abbrev F.es:E_:=174
abbrev F.N1:E_:=175
abbrev F.bw:E_:=176
abbrev F.pN:E_:=177
abbrev F.bS:E_:=178
abbrev F.bW:E_:=179
abbrev F.q1:E_:=180
abbrev F.Im:E_:=181
abbrev F.aX:E_:=182
abbrev F.Io:E_:=183
abbrev F.ex:E_:=184
abbrev F.BK:E_:=185
abbrev F.wc:E_:=186
abbrev F.ei:E_:=187
abbrev F.cC:E_:=188
abbrev F.w:E_:=189
abbrev F.bB:E_:=190
abbrev F.Xm:E_:=191
abbrev F.Xn:E_:=192
abbrev F.gs:E_:=193
abbrev F.gt:E_:=194
abbrev F.x:E_:=195
abbrev F.aJ:E_:=196
abbrev F.a7:E_:=197
abbrev F.bD:E_:=198
abbrev F.bJ:E_:=199
abbrev F.Ks:E_:=207
abbrev F.Kq:E_:=208
abbrev F.Kh:E_:=209
abbrev F.Ke:E_:=210
abbrev F.Kf:E_:=211
abbrev F.KZ:E_:=212
abbrev F.FY:E_:=213
abbrev F.K2:E_:=214
abbrev F.KJ:E_:=215
abbrev F.KI:E_:=216
abbrev F.Cu:E_:=217
abbrev F.Ax:E_:=218
abbrev F.Km:E_:=219
abbrev F.Kr:E_:=220
abbrev F.FN:E_:=221
abbrev F.Kn:E_:=222
abbrev F.N2:E_:=223
abbrev F.hp:E_:=224
abbrev F.Ir:E_:=225
abbrev F.Iu:E_:=226
abbrev F.wg:E_:=227
abbrev F.Iv:E_:=228
abbrev F.uI:E_:=229
abbrev F.Eb:E_:=230
abbrev F.fn:E_:=231
abbrev F.Ec:E_:=232
abbrev F.Iw:E_:=233
abbrev F.Iy:E_:=234
abbrev F.hG:E_:=235
abbrev F.gd:E_:=236
abbrev F.sY:E_:=237
abbrev F.IC:E_:=238
abbrev F.ID:E_:=239
abbrev F.IE:E_:=240
abbrev F.Ef:E_:=243
abbrev F.IF:E_:=246
abbrev F.IG:E_:=247
abbrev F.Ki:E_:=249
abbrev F.KK:E_:=250
abbrev F.KL:E_:=251
abbrev F.Kx:E_:=252
abbrev F.go:E_:=253
abbrev F.f2:E_:=254
abbrev F.f3:E_:=255
abbrev F.iI:E_:=256
abbrev F.ik:E_:=257
abbrev F.f4:E_:=258
abbrev F.eZ:E_:=259
abbrev F.am:E_:=260
abbrev F.f5:E_:=261
abbrev F.s0:E_:=262
abbrev F.s3:E_:=263
abbrev F.ap:E_:=264
abbrev F.i:E_:=265
abbrev F.uv:E_:=266
abbrev F.jG:E_:=267
abbrev F.as:E_:=268
abbrev F.vL:E_:=269
abbrev F.pH:E_:=270
abbrev F.vM:E_:=271
abbrev F.f6:E_:=272
abbrev F.pK:E_:=273
abbrev F.f7:E_:=274
abbrev F.f8:E_:=275
abbrev F.f9:E_:=288
abbrev F.IH:E_:=289
abbrev F.II:E_:=290
abbrev F.Kj:E_:=291
abbrev F.IJ:E_:=292
abbrev F.lb:E_:=293
abbrev F.ta:E_:=294
abbrev F.s:E_:=295
abbrev F.ge:E_:=296
abbrev F.jq:E_:=311
abbrev F.ce:E_:=335
abbrev F.t:E_:=336
abbrev F.DW:E_:=337
abbrev F.fS:E_:=338
abbrev F.uy:E_:=339
abbrev F.IK:E_:=340
abbrev F.IL:E_:=341
abbrev F.ci:E_:=342
abbrev F.IM:E_:=343
abbrev F.IN:E_:=344
abbrev F.om:E_:=345
abbrev F.DY:E_:=346
abbrev F.Ee:E_:=347
abbrev G.amC:Nat:=0
theorem _root_.Ct{A:Prop}(h:A:=by kernel_rfl):A:=h
theorem lN:Tryz.prog.follows .mixedOrders=true:=Ct
theorem vA{f:E_}{L:mW}{args:C_ B_}{R:B_->A_->Prop}{w:A_}(an:lH Tryz.prog f=some L)(h:eg Tryz.prog L.code (ra L.res R ⟨⟩) (h5 args 0) w ⟨⟩)(aV:args.length<=L.n:=by exact Nat.le_of_ble_eq_true rfl):aY Tryz.prog f args.toArray w R:=_h lN an aV h
theorem Bp{c d:eN}(h:∀X:eN->Prop,X d->X c:=by
 intro X q
 conv=>arg 1;whnf
 try simp only[bj,abQ,Lr,ZF,VP,Xj,Xk,H7,QH,QE,vl,MZ,GZ,adt,Ng,J1,DF,IB,Lg,N0,q8,Q4,ML,RA,aew,aev,Tryz.underlying3,Tryz.underlying4,Tryz.underlying9,Tryz.underlying22,Tryz.underlying23,Tryz.underlying24,Tryz.underlying25,Tryz.underlying26,Tryz.underlying28,Tryz.underlying29,Tryz.underlying34,Tryz.underlying36,Tryz.underlying39,Tryz.underlying42,Tryz.underlying43,Tryz.underlying47,Tryz.underlying50,Tryz.underlying55,Tryz.underlying57,Tryz.underlying58,Tryz.underlying60,Tryz.underlying61,Tryz.underlying63,Tryz.underlying65,Tryz.underlying72,Tryz.underlying74,Tryz.underlying76,Tryz.underlying80,Tryz.underlying101,Tryz.underlying111,Tryz.underlying114,Tryz.underlying121,Tryz.underlying126,Tryz.underlying130,Tryz.underlying133,Tryz.underlying140,Tryz.underlying144,Tryz.underlying148,Tryz.underlying151,Tryz.underlying155,Tryz.underlying161,Tryz.underlying165,Tryz.underlying172,Tryz.underlying175,Tryz.underlying179,Tryz.underlying181,Tryz.underlying183,Tryz.underlying186,Tryz.underlying190,Tryz.underlying202,Tryz.underlying204,Tryz.underlying208,Tryz.underlying221,Tryz.underlying238,Tryz.underlying239,Tryz.underlying240,Tryz.underlying242,Tryz.underlying245,Tryz.underlying247,Tryz.underlying252,Tryz.underlying263,Tryz.underlying265,Tryz.underlying268,Tryz.underlying307,Tryz.underlying308,Tryz.underlying309,Tryz.underlying310,Tryz.underlying311,Tryz.underlying324,Tryz.underlying326,Tryz.type0,Tryz.type3,Tryz.type4,Tryz.type9,Tryz.type22,Tryz.type23,Tryz.type24,Tryz.type25,Tryz.type26,Tryz.type28,Tryz.type29,Tryz.type36,Tryz.type39,Tryz.type42,Tryz.type43,Tryz.type47,Tryz.type50,Tryz.type55,Tryz.type57,Tryz.type58,Tryz.type60,Tryz.type61,Tryz.type63,Tryz.type65,Tryz.type72,Tryz.type74,Tryz.type76,Tryz.type80,Tryz.type101,Tryz.type111,Tryz.type121,Tryz.type126,Tryz.type130,Tryz.type133,Tryz.type140,Tryz.type144,Tryz.type151,Tryz.type161,Tryz.type165,Tryz.type172,Tryz.type175,Tryz.type181,Tryz.type183,Tryz.type186,Tryz.type190,Tryz.type202,Tryz.type208,Tryz.type221,Tryz.type238,Tryz.type239,Tryz.type240,Tryz.type242,Tryz.type245,Tryz.type247,Tryz.type252,Tryz.type263,Tryz.type268,Tryz.type307,Tryz.type308,Tryz.type309,Tryz.type310,Tryz.type311,Tryz.type324,Tryz.type326,Tryz.t0,Tryz.t3,Tryz.t4,Tryz.t9,Tryz.t22,Tryz.t23,Tryz.t24,Tryz.t25,Tryz.t26,Tryz.t28,Tryz.t29,Tryz.t36,Tryz.t39,Tryz.t42,Tryz.t43,Tryz.t47,Tryz.t50,Tryz.t55,Tryz.t57,Tryz.t58,Tryz.t60,Tryz.t61,Tryz.t63,Tryz.t65,Tryz.t72,Tryz.t74,Tryz.t76,Tryz.t80,Tryz.t101,Tryz.t111,Tryz.t121,Tryz.t126,Tryz.t130,Tryz.t133,Tryz.t140,Tryz.t144,Tryz.t151,Tryz.t161,Tryz.t165,Tryz.t172,Tryz.t175,Tryz.t181,Tryz.t183,Tryz.t186,Tryz.t190,Tryz.t202,Tryz.t208,Tryz.t221,Tryz.t238,Tryz.t239,Tryz.t240,Tryz.t242,Tryz.t245,Tryz.t247,Tryz.t252,Tryz.t263,Tryz.t268,Tryz.t307,Tryz.t308,Tryz.t309,Tryz.t310,Tryz.t311,Tryz.t324,Tryz.t326,Nat.reduceEqDiff,reduceIte]
 try dsimp only[ad,cf,iO,bA,dQ,bP,bY,e8,b3,aq,fc,bd,bk,dq,ys,jP,cu,ch,qO,fR,gH,qa,oS,cO,kb,ig,p9,Mc,C6,nZ,vr,vq,rS,lW,xw,List.map_cons,List.map_nil]
 exact q):c=d:=h (· = d) rfl
theorem br{f:E_}{n:Nat}{r:C_ mX}{c d:eN}{args:C_ B_}{R:B_->A_->Prop}{w:A_}(an:lH Tryz.prog f=some ⟨n,r,c⟩)(h:eg Tryz.prog d (ra r R ⟨⟩) (h5 args 0) w ⟨⟩)(e:c=d:=by exact Bp)(aV:args.length<=n:=by exact Nat.le_of_ble_eq_true rfl):aY Tryz.prog f args.toArray w R:=_h lN (an.trans (congrArg (fun c=>some (⟨n,r,c⟩:mW)) e)) aV h
abbrev bf(f:E_)(c:mW):Prop:=lH Tryz.prog f=some c
theorem bg{f:E_}{c:mW}(h:lH Tryz.prog f=some c:=by kernel_rfl):bf f c:=h
theorem E.F6:bf F.F6 ⟨139,[.tmp 4],bj Tryz.prog [10] [(1,(.dp (.take (dQ 12 (.di 5 (ad 2))) (.take (aq 13 1) (.take (dQ 15 (.di 5 (ad 2))) (.take (aq 16 1) (.alt (bY 14 (.fn F.Ay [(ad 12),(ad 13)])) (.bh (bY 17 (.fn F.a0 [(ad 15),(ad 16)])) (.take (aq 5 14) (.take (aq 6 17) .done)) .nil) .nil)))))))] (bm Tryz.f5)⟩:=bg
theorem E.HS:bf F.HS ⟨83,[.tmp 4],bj Tryz.prog [] [(3,(.dp (.take (dQ 25 (.di 5 (ad 2))) (.take (dQ 27 (.di 5 (ad 2))) (.take (dQ 29 (.di 5 (ad 2))) (.alt (bY 26 (.fn F.c [(ad 25)])) (.alt (bY 28 (.fn F.b [(ad 27)])) (.bh (bY 30 (.fn F.a [(ad 29)])) (.take (bA 31 (.gN 2 (ad 30))) (.alt (bP 5 (.new T.c ch)) (.alt (bP 6 (.new T.g ch)) (.bh (ys 5 26) (.bh (ys 6 28) (.take (aq 7 31) .done) .nil) .nil) .nil) (.alt (bP 6 (.new T.g ch)) (.alt (bP 5 (.new T.c ch)) (.bh (ys 5 26) (.bh (ys 6 28) (.take (aq 7 31) .done) .nil) .nil) .nil) .nil))) (.alt (bP 5 (.new T.c ch)) (.bh (bY 30 (.fn F.a [(ad 29)])) (.take (bA 31 (.gN 2 (ad 30))) (.alt (bP 6 (.new T.g ch)) (.bh (ys 5 26) (.bh (ys 6 28) (.take (aq 7 31) .done) .nil) .nil) .nil)) (.alt (bP 6 (.new T.g ch)) (.bh (bY 30 (.fn F.a [(ad 29)])) (.take (bA 31 (.gN 2 (ad 30))) (.bh (ys 5 26) (.bh (ys 6 28) (.take (aq 7 31) .done) .nil) .nil)) .nil) .nil)) (.alt (bP 6 (.new T.g ch)) (.bh (bY 30 (.fn F.a [(ad 29)])) (.take (bA 31 (.gN 2 (ad 30))) (.alt (bP 5 (.new T.c ch)) (.bh (ys 5 26) (.bh (ys 6 28) (.take (aq 7 31) .done) .nil) .nil) .nil)) (.alt (bP 5 (.new T.c ch)) (.bh (bY 30 (.fn F.a [(ad 29)])) (.take (bA 31 (.gN 2 (ad 30))) (.bh (ys 5 26) (.bh (ys 6 28) (.take (aq 7 31) .done) .nil) .nil)) .nil) .nil)) .nil))) (.alt (bP 5 (.new T.c ch)) (.alt (bY 28 (.fn F.b [(ad 27)])) (.bh (bY 30 (.fn F.a [(ad 29)])) (.take (bA 31 (.gN 2 (ad 30))) (.alt (bP 6 (.new T.g ch)) (.bh (ys 5 26) (.bh (ys 6 28) (.take (aq 7 31) .done) .nil) .nil) .nil)) (.alt (bP 6 (.new T.g ch)) (.bh (bY 30 (.fn F.a [(ad 29)])) (.take (bA 31 (.gN 2 (ad 30))) (.bh (ys 5 26) (.bh (ys 6 28) (.take (aq 7 31) .done) .nil) .nil)) .nil) .nil)) (.alt (bP 6 (.new T.g ch)) (.alt (bY 28 (.fn F.b [(ad 27)])) (.bh (bY 30 (.fn F.a [(ad 29)])) (.take (bA 31 (.gN 2 (ad 30))) (.bh (ys 5 26) (.bh (ys 6 28) (.take (aq 7 31) .done) .nil) .nil)) .nil) .nil) .nil)) (.alt (bP 6 (.new T.g ch)) (.alt (bY 28 (.fn F.b [(ad 27)])) (.bh (bY 30 (.fn F.a [(ad 29)])) (.take (bA 31 (.gN 2 (ad 30))) (.alt (bP 5 (.new T.c ch)) (.bh (ys 5 26) (.bh (ys 6 28) (.take (aq 7 31) .done) .nil) .nil) .nil)) (.alt (bP 5 (.new T.c ch)) (.bh (bY 30 (.fn F.a [(ad 29)])) (.take (bA 31 (.gN 2 (ad 30))) (.bh (ys 5 26) (.bh (ys 6 28) (.take (aq 7 31) .done) .nil) .nil)) .nil) .nil)) (.alt (bP 5 (.new T.c ch)) (.alt (bY 28 (.fn F.b [(ad 27)])) (.bh (bY 30 (.fn F.a [(ad 29)])) (.take (bA 31 (.gN 2 (ad 30))) (.bh (ys 5 26) (.bh (ys 6 28) (.take (aq 7 31) .done) .nil) .nil)) .nil) .nil) .nil)) .nil))) (.alt (bP 5 (.new T.c ch)) (.alt (bY 26 (.fn F.c [(ad 25)])) (.alt (bY 28 (.fn F.b [(ad 27)])) (.bh (bY 30 (.fn F.a [(ad 29)])) (.take (bA 31 (.gN 2 (ad 30))) (.alt (bP 6 (.new T.g ch)) (.bh (ys 5 26) (.bh (ys 6 28) (.take (aq 7 31) .done) .nil) .nil) .nil)) (.alt (bP 6 (.new T.g ch)) (.bh (bY 30 (.fn F.a [(ad 29)])) (.take (bA 31 (.gN 2 (ad 30))) (.bh (ys 5 26) (.bh (ys 6 28) (.take (aq 7 31) .done) .nil) .nil)) .nil) .nil)) (.alt (bP 6 (.new T.g ch)) (.alt (bY 28 (.fn F.b [(ad 27)])) (.bh (bY 30 (.fn F.a [(ad 29)])) (.take (bA 31 (.gN 2 (ad 30))) (.bh (ys 5 26) (.bh (ys 6 28) (.take (aq 7 31) .done) .nil) .nil)) .nil) .nil) .nil)) (.alt (bP 6 (.new T.g ch)) (.alt (bY 26 (.fn F.c [(ad 25)])) (.alt (bY 28 (.fn F.b [(ad 27)])) (.bh (bY 30 (.fn F.a [(ad 29)])) (.take (bA 31 (.gN 2 (ad 30))) (.bh (ys 5 26) (.bh (ys 6 28) (.take (aq 7 31) .done) .nil) .nil)) .nil) .nil) .nil) .nil)) (.alt (bP 6 (.new T.g ch)) (.alt (bY 26 (.fn F.c [(ad 25)])) (.alt (bY 28 (.fn F.b [(ad 27)])) (.bh (bY 30 (.fn F.a [(ad 29)])) (.take (bA 31 (.gN 2 (ad 30))) (.alt (bP 5 (.new T.c ch)) (.bh (ys 5 26) (.bh (ys 6 28) (.take (aq 7 31) .done) .nil) .nil) .nil)) (.alt (bP 5 (.new T.c ch)) (.bh (bY 30 (.fn F.a [(ad 29)])) (.take (bA 31 (.gN 2 (ad 30))) (.bh (ys 5 26) (.bh (ys 6 28) (.take (aq 7 31) .done) .nil) .nil)) .nil) .nil)) (.alt (bP 5 (.new T.c ch)) (.alt (bY 28 (.fn F.b [(ad 27)])) (.bh (bY 30 (.fn F.a [(ad 29)])) (.take (bA 31 (.gN 2 (ad 30))) (.bh (ys 5 26) (.bh (ys 6 28) (.take (aq 7 31) .done) .nil) .nil)) .nil) .nil) .nil)) (.alt (bP 5 (.new T.c ch)) (.alt (bY 26 (.fn F.c [(ad 25)])) (.alt (bY 28 (.fn F.b [(ad 27)])) (.bh (bY 30 (.fn F.a [(ad 29)])) (.take (bA 31 (.gN 2 (ad 30))) (.bh (ys 5 26) (.bh (ys 6 28) (.take (aq 7 31) .done) .nil) .nil)) .nil) .nil) .nil) .nil)) .nil))))))))] (bm Tryz.f8)⟩:=bg
theorem E.F7:bf F.F7 ⟨48,[.tmp 0],bj Tryz.prog [] [] (bm Tryz.f10)⟩:=bg
theorem E.K7:bf F.K7 ⟨55,[.tmp 4],bj Tryz.prog [6] [] (bm Tryz.f11)⟩:=bg
theorem E.a0:bf F.a0 ⟨22,[.tmp 4],bj Tryz.prog [] [] (bm Tryz.f12)⟩:=bg
theorem E.Ay:bf F.Ay ⟨23,[.tmp 4],bj Tryz.prog [] [] (bm Tryz.f14)⟩:=bg
theorem E.Cv:bf F.Cv ⟨37,[.tmp 2],bj Tryz.prog [7] [] (bm Tryz.f15)⟩:=bg
theorem E.Kg:bf F.Kg ⟨26,[.tmp 4],bj Tryz.prog [6] [] (bm Tryz.f16)⟩:=bg
theorem E.KN:bf F.KN ⟨63,[.jm 4 2],bj Tryz.prog [] [] (bm Tryz.f19)⟩:=bg
theorem E.co:bf F.co ⟨15,[.tmp 4],bj Tryz.prog [] [] (bm Tryz.f23)⟩:=bg
theorem E.b:bf F.b ⟨6,[.tmp 2],bj Tryz.prog [] [] (bm Tryz.f25)⟩:=bg
theorem E.a:bf F.a ⟨15,[.jm 6 2],bj Tryz.prog [] [] (bm Tryz.f26)⟩:=bg
theorem E.oi:bf F.oi ⟨28,[.tmp 5],bj Tryz.prog [1] [] (bm Tryz.f27)⟩:=bg
theorem E.x3:bf F.x3 ⟨50,[.tmp 4],bj Tryz.prog [] [(6,(.dp (.take (dQ 24 (.di 5 (ad 2))) (.take (dQ 25 (.di 5 (ad 2))) (.take (aq 27 5) (.take (aq 28 1) (.take (dq 29 2 27 28) (.take (dQ 30 (.di 2 (ad 29))) (.alt (bY 26 (.fn F.b [(ad 25)])) (.bh (bY 31 (.fn F.g [(ad 24),(ad 26),(ad 30)])) (.alt (bP 6 (.new T.m (.agg #[qO,cu,cu,ch,ch,(.bool false)]))) (.bh (e8 (.gY 6 (ad 6) (ad 31))) .done .nil) .nil) (.alt (bP 6 (.new T.m (.agg #[qO,cu,cu,ch,ch,(.bool false)]))) (.bh (bY 31 (.fn F.g [(ad 24),(ad 26),(ad 30)])) (.bh (e8 (.gY 6 (ad 6) (ad 31))) .done .nil) .nil) .nil)) (.alt (bP 6 (.new T.m (.agg #[qO,cu,cu,ch,ch,(.bool false)]))) (.alt (bY 26 (.fn F.b [(ad 25)])) (.bh (bY 31 (.fn F.g [(ad 24),(ad 26),(ad 30)])) (.bh (e8 (.gY 6 (ad 6) (ad 31))) .done .nil) .nil) .nil) .nil))))))))))] (bm Tryz.f29)⟩:=bg
theorem E.gp:bf F.gp ⟨29,[.tmp 6],bj Tryz.prog [] [] (bm Tryz.f30)⟩:=bg
theorem E.cs:bf F.cs ⟨18,[.tmp 4],bj Tryz.prog [] [] (bm Tryz.f32)⟩:=bg
theorem E.e:bf F.e ⟨18,[.tmp 4],bj Tryz.prog [1] [] (bm Tryz.f34)⟩:=bg
theorem E.K3:bf F.K3 ⟨13,[.jm 13 2,.tmp 3],bj Tryz.prog [] [(3,(.dp (.take (dQ 9 (.di 5 (ad 1))) (.take (dQ 10 (.di 5 (ad 1))) (.alt (bY 11 (.fn F.FV [(ad 10)])) (.bh (bY 12 (.fn F.FZ [(ad 9),(ad 11)])) (.bh (e8 (.gY 13 (ad 2) (ad 12))) (.take (fc 3 (iO true)) .done) .nil) .nil) .nil)))))] (bm Tryz.f35)⟩:=bg
theorem E.K5:bf F.K5 ⟨11,[.tmp 4],bj Tryz.prog [] [] (bm Tryz.f36)⟩:=bg
theorem E.K4:bf F.K4 ⟨72,[.tmp 4],bj Tryz.prog [] [(8,(.dp (.take (dQ 33 (.di 13 (ad 2))) (.take (aq 34 6) (.take (bd 36 0 2) (.take (bd 37 2 36) (.take (bk 38 37) (.alt (bY 35 (.fn F.F0 [(ad 33),(ad 34)])) (.bh (bY 39 (.fn F.FQ [(ad 35),(ad 38)])) (.take (gH .eql T.a 40 39 2) .done) .nil) .nil)))))))),(10,(.dp (.take (aq 48 5) (.take (aq 49 6) (.take (dQ 50 (.di 13 (ad 2))) (.take (aq 51 7) (.take (aq 52 10) (.take (dQ 53 (.di 13 (ad 2))) (.take (aq 54 1) (.take (aq 55 10) (.alt (bY 56 (.fn F.F2 [(ad 53),(ad 54),(ad 55)])) (.bh (bY 57 (.fn F.Cw [(ad 50),(ad 51),(ad 52),(ad 56)])) (.take (bA 58 (.gl [cu,cu,ch] [(0,1),(1,1),(2,1)] [(0,(ad 49)),(1,(cf 1)),(2,(ad 57))])) (.bh (bP 59 (.gb T.k 1 3 [cu,cu,ch] [(0,(ad 58))])) (.bh (bP 60 (.app T.pG T.k 3 40 (ad 48) (ad 59))) (.take (aq 5 60) .done) .nil) .nil)) .nil) .nil)))))))))))] (bm Tryz.f37)⟩:=bg
theorem E.FT:bf F.FT ⟨43,[.tmp 2],bj Tryz.prog [8] [] (bm Tryz.f38)⟩:=bg
theorem E.FQ:bf F.FQ ⟨31,[.tmp 4],bj Tryz.prog [] [] (bm Tryz.f39)⟩:=bg
theorem E.F0:bf F.F0 ⟨28,[.jm 6 4],bj Tryz.prog [] [(2,(.dp (.take (bd 11 0 2) (.take (bd 12 3 11) (.take (bk 13 12) (.take (bd 14 11 2) (.take (bk 15 14) (.take (bd 16 0 5) (.take (bk 17 16) (.take (dq 18 2 15 17) (.take (bd 19 0 18) (.take (bk 20 19) (.take (dq 21 5 13 20) (.take (bd 22 4 21) (.take (bk 23 22) (.take (bd 24 1 5) (.take (bk 25 24) (.take (dq 26 6 23 25) (.take (dQ 27 (.di 6 (ad 26))) (.bh (e8 (.gY 6 (ad 4) (ad 27))) .done .nil))))))))))))))))))))] (bm Tryz.f40)⟩:=bg
theorem E.K6:bf F.K6 ⟨96,[.tmp 6,.tmp 7],bj Tryz.prog [3] [(6,(.dp (.take (bd 42 3 9) (.take (bk 43 42) (.take (bd 44 0 3) (.take (dQ 45 (.di 5 (ad 44))) (.take (bd 46 5 3) (.take (dQ 47 (.di 6 (ad 46))) (.take (aq 48 1) (.take (bd 49 0 8) (.take (bk 50 49) (.alt (bY 51 (.fn F.FW [(ad 45),(ad 47),(ad 48),(ad 50)])) (.bh (bY 52 (.fn F.FM [(ad 43),(ad 51)])) (.take (aq 41 52) (.take (bA 53 (.ext (ad 41) 0)) (.take (bA 54 (.ext (ad 41) 1)) (.take (aq 10 53) (.take (aq 11 54) .done))))) .nil) .nil)))))))))))),(13,(.dp (.take (dQ 70 (.di 13 (ad 3))) (.take (aq 71 12) (.take (bd 72 0 8) (.take (bk 73 72) (.take (bd 74 4 9) (.take (bk 75 74) (.take (aq 76 13) (.take (dq 77 5 75 76) (.take (dQ 78 (.di 5 (ad 77))) (.bh (bY 79 (.fn F.F1 [(ad 70),(ad 71),(ad 73),(ad 78)])) (.take (aq 69 79) (.take (bA 80 (.ext (ad 69) 0)) (.take (bA 81 (.ext (ad 69) 1)) (.take (aq 14 80) (.take (aq 15 81) .done))))) .nil)))))))))))),(17,(.dp (.take (aq 85 12) (.take (bd 86 5 3) (.take (bd 87 2 86) (.take (bk 88 87) (.take (bd 89 0 8) (.take (bk 90 89) (.take (dq 91 1 88 90) (.take (bk 92 91) (.take (bd 93 2 9) (.take (bk 94 93) (.bh (bY 95 (.fn F.F3 [(ad 85),(ad 92),(ad 94)])) (.take (aq 6 95) (.take (fc 7 (iO true)) .done)) .nil)))))))))))))] (bm Tryz.f41)⟩:=bg
theorem E.KH:bf F.KH ⟨40,[.tmp 2,.tmp 3],bj Tryz.prog [5] [] (bm Tryz.f42)⟩:=bg
theorem E.Cw:bf F.Cw ⟨30,[.tmp 8],bj Tryz.prog [] [(2,(.dp (.take (aq 17 1) (.take (aq 18 9) (.take (bA 19 (.gJ 1 (ad 17) none (some (ad 18)) none)) (.take (aq 21 3) (.take (aq 23 1) (.take (aq 24 9) (.take (aq 25 3) (.take (jP 26 25) (.take (fR .add T.a 27 24 26) (.take (bA 28 (.gJ 1 (ad 23) (some (ad 27)) none none)) (.bh (bP 16 (.gb T.a 0 1 [] [])) (.bh (bP 20 (.app T.b T.a 1 8 (ad 16) (ad 19))) (.bh (bP 22 (.app T.b T.a 1 8 (ad 20) (ad 21))) (.bh (bP 29 (.app T.b T.a 1 8 (ad 22) (ad 28))) (.take (aq 8 29) .done) .nil) .nil) .nil) .nil)))))))))))))] (bm Tryz.f43)⟩:=bg
theorem E.F2:bf F.F2 ⟨27,[.tmp 6],bj Tryz.prog [] [] (bm Tryz.f44)⟩:=bg
theorem E.FV:bf F.FV ⟨99,[.jm 6 2],bj Tryz.prog [] [(12,(.dp (.take (bd 75 4 3) (.take (bk 76 75) (.take (aq 77 4) (.take (aq 78 5) (.take (dq 79 6 77 78) (.take (bd 80 3 79) (.take (bk 81 80) (.alt (bP 82 (.gb T.a 1 1 [cu] [(0,(ad 81))])) (.bh (bP 83 (.app T.b T.a 1 8 (ad 76) (ad 82))) (.take (bd 84 4 3) (.bh (ys 84 83) .done .nil)) .nil) .nil)))))))))),(13,(.dp (.take (bd 85 5 3) (.take (bk 86 85) (.take (aq 87 4) (.take (aq 88 5) (.take (dq 89 6 87 88) (.take (bd 90 4 89) (.take (bk 91 90) (.alt (bP 92 (.gb T.a 1 1 [cu] [(0,(ad 91))])) (.bh (bP 93 (.app T.b T.a 1 8 (ad 86) (ad 92))) (.take (bd 94 5 3) (.bh (ys 94 93) .done .nil)) .nil) .nil))))))))))] (bm Tryz.f46)⟩:=bg
theorem E.KQ:bf F.KQ ⟨93,[.jm 4 2],bj Tryz.prog [7,15] [(10,(.dp (.take (dQ 45 (.di 5 (ad 1))) (.take (aq 46 5) (.take (bd 48 1 1) (.take (bk 49 48) (.take (aq 50 5) (.take (dq 51 6 49 50) (.take (bd 52 0 51) (.take (bk 53 52) (.alt (bY 47 (.fn F.w6 [(ad 45),(cf 2),(ad 46)])) (.bh (bY 54 (.fn F.w7 [(ad 47),(ad 53)])) .done .nil) .nil))))))))))),(18,(.dp (.take (dQ 80 (.di 5 (ad 1))) (.take (aq 81 8) (.take (bd 83 2 1) (.take (bk 84 83) (.take (aq 85 8) (.take (dq 86 6 84 85) (.take (bd 87 0 86) (.take (bk 88 87) (.alt (bY 82 (.fn F.w6 [(ad 80),(cf 3),(ad 81)])) (.bh (bY 89 (.fn F.w7 [(ad 82),(ad 88)])) .done .nil) .nil)))))))))))] (bm Tryz.f47)⟩:=bg
theorem E.KR:bf F.KR ⟨66,[.jm 4 4],bj Tryz.prog [] [(4,(.dp (.take (dQ 20 (.di 5 (ad 5))) (.take (dQ 21 (.di 5 (ad 2))) (.take (aq 22 1) (.alt (bY 23 (.fn F.FU [(ad 21),(ad 22)])) (.bh (bY 24 (.fn F.FR [(ad 20),(ad 23)])) (.take (aq 19 24) (.take (bA 25 (.ext (ad 19) 0)) (.take (bA 26 (.ext (ad 19) 1)) (.take (bA 27 (.ext (ad 19) 2)) (.take (aq 6 25) (.take (aq 7 26) (.take (aq 8 27) .done))))))) .nil) .nil)))))),(7,(.dp (.take (dQ 37 (.di 5 (ad 2))) (.take (aq 38 1) (.take (bd 40 0 5) (.take (bk 41 40) (.alt (bY 39 (.fn F.w6 [(ad 37),(cf 4),(ad 38)])) (.bh (bY 42 (.fn F.w7 [(ad 39),(ad 41)])) .done .nil) .nil))))))),(12,(.dp (.take (dQ 52 (.di 5 (ad 2))) (.take (bd 54 3 5) (.take (bk 55 54) (.take (aq 56 9) (.take (dq 57 6 55 56) (.take (bd 58 0 57) (.take (bk 59 58) (.alt (bY 53 (.fn F.w6 [(ad 52),(cf 5),(cf 0)])) (.bh (bY 60 (.fn F.w7 [(ad 53),(ad 59)])) .done .nil) .nil))))))))))] (bm Tryz.f48)⟩:=bg
theorem E.KP:bf F.KP ⟨90,[.tmp 2,.tmp 3,.tmp 4],bj Tryz.prog [5,13] [(9,(.dv [aq 36 7,gH .add T.a 37 36 1,bd 38 2 1,bk 39 38,aq 40 9,dq 41 6 39 40,bd 42 2 41,bk 43 42,bA 44 (.u5 (ad 43) (cf 0)),bA 45 (.xa (ad 44) (cf 4)),fR .add T.a 46 37 45,aq 7 46]))] (bm Tryz.f49)⟩:=bg
theorem E.KS:bf F.KS ⟨45,[.tmp 4],bj Tryz.prog [] [(6,(.dp (.take (dQ 19 (.di 5 (ad 2))) (.take (aq 20 1) (.take (bd 22 0 5) (.take (bk 23 22) (.alt (bY 21 (.fn F.w6 [(ad 19),(cf 5),(ad 20)])) (.bh (bY 24 (.fn F.w7 [(ad 21),(ad 23)])) .done .nil) .nil)))))))] (bm Tryz.f50)⟩:=bg
theorem E.KV:bf F.KV ⟨45,[.tmp 6],bj Tryz.prog [7] [] (bm Tryz.f52)⟩:=bg
noncomputable def C.pE:mW:=⟨88,[],bj Tryz.prog [] [(2,(.fG [aq 18 5,aq 19 4] (some 20) F.d [(ad 18),(cf 1),(ad 19),(cf 0)])),(6,(.dv [aq 28 1,bd 29 0 7,bk 30 29,e8 (.j4 .string (ad 28) (ad 30) (iO true))])),(13,(.fG [aq 51 5,aq 52 8] (some 53) F.d [(ad 51),(cf 2),(ad 52),(cf 0)])),(14,(.fG [aq 54 1,bd 55 0 9,bk 56 55,aq 57 8] (some 58) F.p [(ad 54),(ad 56),(cf 2),(ad 57)])),(21,(.fG [aq 79 5,aq 80 10] (some 81) F.d [(ad 79),(cf 3),(ad 80),(cf 0)])),(22,(.fG [aq 82 1,bd 83 0 11,bk 84 83,aq 85 10] (some 86) F.p [(ad 82),(ad 84),(cf 3),(ad 85)]))] (bm Tryz.f55)⟩
theorem E.pE:lH Tryz.prog F.pE=some C.pE:=Ct
noncomputable def C.pF:mW:=⟨105,[],bj Tryz.prog [] [(1,(.dv [bP 18 .tL,aq 4 18])),(2,(.dv [aq 19 1,bP 20 (.raw (.range T.pF (ad 19)) T.z)])),(3,(.dv [bP 21 (.raw (.next (ad 20) false) T.z),bA 22 (.ext (ad 21) 0)])),(4,(.dv [bP 23 (.raw (.entry (ad 20)) T.z),bA 24 (.ext (ad 23) 0),aq 5 24])),(5,(.dv [aq 25 4,aq 26 5,e8 (.j4 .string (ad 25) (ad 26) (iO true))])),(9,(.dv [aq 34 4,bd 35 0 7,bk 36 35,e8 (.j4 .string (ad 34) (ad 36) (iO true))])),(15,(.fG [aq 48 8] (some 49) F.d [(cf 11),(cf 4),(ad 48),(cf 0)])),(16,(.dp (.take (dQ 51 (.di 5 (ad 9))) (.take (dQ 52 (.di 5 (ad 2))) (.take (aq 53 8) (.alt (bY 54 (.fn F.DP [(ad 52),(ad 53)])) (.bh (bY 55 (.fn F.cP [(ad 51),(ad 54)])) (.take (aq 50 55) (.take (bA 56 (.ext (ad 50) 0)) (.take (bA 57 (.ext (ad 50) 1)) (.take (bA 58 (.ext (ad 50) 2)) (.take (aq 10 56) (.take (aq 11 57) (.take (aq 12 58) .done))))))) .nil) .nil)))))),(17,(.fG [aq 59 12,aq 60 8,aq 61 10,bA 62 (.bin .mul T.a (cf 16) (ad 61)),aq 63 11,fR .add T.a 64 62 63] (some 65) F.d [(ad 59),(cf 4),(ad 60),(ad 64)])),(18,(.fG [aq 66 1,bd 67 0 9,bk 68 67,aq 69 8] (some 70) F.p [(ad 66),(ad 68),(cf 4),(ad 69)])),(22,(.dv [aq 79 4,bd 80 0 14,bk 81 80,dQ 82 (.nT .string (.bool false) false (ad 79) (ad 81))])),(23,(.fG [aq 83 8,aq 84 13,bA 85 (.bin .add T.a (cf 16) (ad 84))] (some 86) F.d [(cf 7),(cf 4),(ad 83),(ad 85)])),(28,(.fG [bd 101 3 2,bk 102 101,jP 103 102] (some 104) F.d [(cf 11),(cf 4),(ad 103),(cf 0)]))] (bm Tryz.f56)⟩
theorem E.pF:lH Tryz.prog F.pF=some C.pF:=Ct
noncomputable def C.a9:mW:=⟨51,[],bj Tryz.prog [] [(6,(.fG [aq 22 5] (some 23) F.d [(cf 11),(cf 5),(ad 22),(cf 0)])),(8,(.fG [aq 29 5] (some 30) F.d [(cf 6),(cf 5),(ad 29),(cf 0)])),(9,(.fG [aq 31 1,bd 32 0 6,bk 33 32,aq 34 5] (some 35) F.p [(ad 31),(ad 33),(cf 5),(ad 34)])),(11,(.fG [aq 43 8,aq 44 5] (some 45) F.d [(ad 43),(cf 5),(ad 44),(cf 0)])),(13,(.fG [aq 48 5] (some 49) F.d [(cf 9),(cf 5),(ad 48),(cf 0)]))] (bm Tryz.f57)⟩
theorem E.a9:lH Tryz.prog F.a9=some C.a9:=Ct
theorem E.bu:bf F.bu ⟨14,[.tmp 2],bj Tryz.prog [] [(3,(.dp (.take (dQ 7 (.di 5 (ad 1))) (.take (dQ 9 (.di 5 (ad 1))) (.take (dQ 10 (.di 5 (ad 1))) (.alt (bY 8 (.fn F.a [(ad 7)])) (.alt (bY 11 (.fn F.b [(ad 10)])) (.take (bA 12 (.gl [ch,ch,ch,cu,ch,ch,ch,ch,ch,ch,ch,ch] [(0,6),(6,5),(11,1)] [(0,(ad 8)),(1,(ad 9)),(2,(ad 11))])) (.bh (bP 13 (.box T.uv (ad 12))) (.take (aq 2 13) .done) .nil)) .nil) .nil))))))] (bm Tryz.f58)⟩:=bg
theorem E.bC:bf F.bC ⟨61,[.tmp 4],bj Tryz.prog [] [] (bm Tryz.f59)⟩:=bg
theorem E.gD:bf F.gD ⟨4,[.tmp 2],bj Tryz.prog [] [] (bm Tryz.f60)⟩:=bg
theorem E.o1:bf F.o1 ⟨7,[.tmp 2],bj Tryz.prog [] [] (bm Tryz.f62)⟩:=bg
theorem E.la:bf F.la ⟨142,[.jm 6 2,.tmp 3],bj Tryz.prog [] [(12,(.dp (.wide (.take (bd 43 0 4) (.take (bk 44 43) (.take (aq 45 6) (.take (aq 46 7) (.take (aq 47 9) (.alt (bY 48 (.val (ad 45) [(cf 1),(ad 46),(ad 47)])) (.alt (bP 49 (.gb T.a 1 1 [cu] [(0,(ad 48))])) (.bh (bP 50 (.app T.b T.a 1 8 (ad 44) (ad 49))) (.take (bd 51 0 4) (.bh (ys 51 50) .done .nil)) .nil) .nil) .nil))))))))),(18,(.dv [bd 65 1 11,bk 66 65,bd 67 3 11,bk 68 67,bA 69 (.xa (ad 68) (cf 0)),bd 70 4 11,bk 71 70,bA 72 (.u5 (ad 71) (cf 0)),bA 73 (.gl [qO,cu,cu,cu,cu,cu] [(0,1),(1,1),(2,1),(3,1),(4,1),(5,1)] [(1,(ad 66)),(3,(ad 69)),(4,(ad 72))]),bd 74 0 1,bk 75 74,bY 76 (.fn F.vO [(ad 73),(ad 75)]),bP 13 (.new T.j (.agg #[cu,cu,cu])),e8 (.gY 3 (ad 13) (ad 76))])),(23,(.dp (.wide (.take (bd 86 1 4) (.take (bk 87 86) (.take (aq 88 6) (.take (aq 89 10) (.take (aq 90 12) (.alt (bY 91 (.val (ad 88) [(cf 2),(ad 89),(ad 90)])) (.alt (bP 92 (.gb T.a 1 1 [cu] [(0,(ad 91))])) (.bh (bP 93 (.app T.b T.a 1 8 (ad 87) (ad 92))) (.take (bd 94 1 4) (.bh (ys 94 93) .done .nil)) .nil) .nil) .nil))))))))),(35,(.dp (.wide (.take (bd 130 2 4) (.take (bk 131 130) (.take (aq 132 6) (.take (aq 133 14) (.take (aq 134 17) (.alt (bY 135 (.val (ad 132) [(cf 3),(ad 133),(ad 134)])) (.alt (bP 136 (.gb T.a 1 1 [cu] [(0,(ad 135))])) (.bh (bP 137 (.app T.b T.a 1 8 (ad 131) (ad 136))) (.take (bd 138 2 4) (.bh (ys 138 137) .done .nil)) .nil) .nil) .nil))))))))),(37,(.dp (.bh (dQ 140 (.di 6 (ad 4))) (.bh (bk 141 5) (.bh (e8 (.gY 6 (ad 2) (ad 140))) (.take (aq 3 141) .done) .nil) (.bh (e8 (.gY 6 (ad 2) (ad 140))) (.bh (bk 141 5) (.take (aq 3 141) .done) .nil) .nil)) (.bh (bk 141 5) (.bh (dQ 140 (.di 6 (ad 4))) (.bh (e8 (.gY 6 (ad 2) (ad 140))) (.take (aq 3 141) .done) .nil) .nil) .nil))))] (bm Tryz.f63)⟩:=bg
theorem E.hd:bf F.hd ⟨27,[.tmp 2],bj Tryz.prog [] [] (bm Tryz.f64)⟩:=bg
theorem E.DM:bf F.DM ⟨8,[.tmp 6],bj Tryz.prog [] [] (bm Tryz.f65)⟩:=bg
theorem E.ac:bf F.ac ⟨8,[.tmp 3],bj Tryz.prog [] [] (bm Tryz.f66)⟩:=bg
theorem E.Bu:bf F.Bu ⟨24,[.tmp 4],bj Tryz.prog [] [] (bm Tryz.f67)⟩:=bg
theorem E.g:bf F.g ⟨22,[.jm 6 6],bj Tryz.prog [] [(1,(.dp (.take (bd 7 3 3) (.take (bk 8 7) (.take (aq 9 1) (.take (bd 10 0 5) (.take (bk 11 10) (.take (dq 12 2 9 11) (.take (bd 13 0 12) (.take (bk 14 13) (.take (dq 15 5 8 14) (.take (bd 16 4 15) (.take (bk 17 16) (.take (bd 18 1 5) (.take (bk 19 18) (.take (dq 20 6 17 19) (.take (dQ 21 (.di 6 (ad 20))) (.bh (e8 (.gY 6 (ad 6) (ad 21))) .done .nil))))))))))))))))))] (bm Tryz.f68)⟩:=bg
theorem E.be:bf F.be ⟨57,[.tmp 4,.tmp 5],bj Tryz.prog [] [(4,(.dv [bP 22 .tL,bP 23 .tL,aq 9 22,aq 10 23]))] (bm Tryz.f69)⟩:=bg
theorem E.zp:bf F.zp ⟨45,[.tmp 2],bj Tryz.prog [] [(3,(.dp (.take (dQ 14 (.di 5 (ad 1))) (.take (dQ 16 (.di 5 (ad 1))) (.alt (bY 15 (.fn F.a [(ad 14)])) (.bh (bY 17 (.fn F.b [(ad 16)])) (.alt (bP 3 (.new T.i (.agg #[ch,ch,ch,cu,ch,ch]))) (.bh (e8 (.gY 6 (ad 3) (ad 15))) (.take (aq 4 17) .done) .nil) .nil) (.alt (bP 3 (.new T.i (.agg #[ch,ch,ch,cu,ch,ch]))) (.bh (bY 17 (.fn F.b [(ad 16)])) (.bh (e8 (.gY 6 (ad 3) (ad 15))) (.take (aq 4 17) .done) .nil) .nil) .nil)) (.alt (bP 3 (.new T.i (.agg #[ch,ch,ch,cu,ch,ch]))) (.alt (bY 15 (.fn F.a [(ad 14)])) (.bh (bY 17 (.fn F.b [(ad 16)])) (.bh (e8 (.gY 6 (ad 3) (ad 15))) (.take (aq 4 17) .done) .nil) .nil) .nil) .nil))))))] (bm Tryz.f70)⟩:=bg
theorem E.u:bf F.u ⟨8,[.tmp 3],bj Tryz.prog [] [] (bm Tryz.f72)⟩:=bg
theorem E.By:bf F.By ⟨20,[.tmp 4,.tmp 5],bj Tryz.prog [] [] (bm Tryz.f73)⟩:=bg
theorem E.th:bf F.th ⟨16,[.tmp 4],bj Tryz.prog [] [] (bm Tryz.f74)⟩:=bg
theorem E.ti:bf F.ti ⟨40,[.tmp 6],bj Tryz.prog [] [(5,(.dp (.take (aq 21 0) (.take (aq 22 2) (.take (aq 24 0) (.take (bA 25 (.fo (ad 24))) (.take (bd 26 0 25) (.take (bd 27 2 26) (.take (bk 28 27) (.alt (bY 23 (.fn F.h [(ad 21),(ad 22)])) (.bh (bY 29 (.fn F.nz [(ad 23),(ad 28)])) (.take (gH .gtr T.a 30 29 1) .done) .nil) .nil))))))))))] (bm Tryz.f75)⟩:=bg
theorem E.H3:bf F.H3 ⟨46,[.tmp 4],bj Tryz.prog [] [] (bm Tryz.f80)⟩:=bg
theorem E.FZ:bf F.FZ ⟨12,[.jm 13 4],bj Tryz.prog [] [(1,(.dp (.take (dQ 5 (.di 5 (ad 2))) (.take (dQ 6 (.di 6 (ad 3))) (.take (dQ 7 (.di 5 (ad 2))) (.take (dQ 9 (.di 5 (ad 2))) (.alt (bY 8 (.fn F.FT [(ad 7)])) (.alt (bY 10 (.fn F.Cv [(ad 9)])) (.take (bA 11 (.gl [ch,ch,ch,ch,ch,ch,ch,ch,cu,ch,ch,ch,ch] [(0,5),(5,6),(11,1),(12,1)] [(0,(ad 5)),(1,(ad 6)),(2,(ad 8)),(3,(ad 10))])) (.bh (e8 (.gY 13 (ad 4) (ad 11))) .done .nil)) .nil) .nil)))))))] (bm Tryz.f82)⟩:=bg
theorem E.KM:bf F.KM ⟨32,[.tmp 4],bj Tryz.prog [] [] (bm Tryz.f83)⟩:=bg
theorem E.FM:bf F.FM ⟨107,[.tmp 4,.tmp 5],bj Tryz.prog [18,20,22] [] (bm Tryz.f84)⟩:=bg
theorem E.FW:bf F.FW ⟨129,[.jm 5 8],bj Tryz.prog [6,18] [(7,(.dp (.take (bd 35 0 10) (.take (bk 36 35) (.take (aq 38 2) (.take (bd 39 0 5) (.take (bk 40 39) (.take (aq 41 11) (.take (dq 42 1 40 41) (.take (bk 43 42) (.take (bd 44 0 5) (.take (bk 45 44) (.take (aq 46 11) (.take (dq 47 1 45 46) (.take (bk 48 47) (.take (aq 49 12) (.take (fR .add T.a 50 48 49) (.take (bA 51 (.gJ 1 (ad 38) (some (ad 43)) (some (ad 50)) none)) (.alt (bP 37 (.gb T.a 0 1 [] [])) (.alt (bP 52 (.app T.b T.a 1 8 (ad 37) (ad 51))) (.alt (bP 53 (.gb T.b 1 1 [ch] [(0,(ad 52))])) (.bh (bP 54 (.app T.HH T.b 1 24 (ad 36) (ad 53))) (.take (bd 55 0 10) (.bh (ys 55 54) .done .nil)) .nil) .nil) .nil) .nil))))))))))))))))))),(11,(.dp (.take (bd 63 1 10) (.take (bk 64 63) (.take (aq 65 2) (.take (bd 66 1 5) (.take (bk 67 66) (.take (aq 68 13) (.take (dq 69 1 67 68) (.take (bk 70 69) (.take (dq 71 1 65 70) (.take (bk 72 71) (.alt (bP 73 (.gb T.a 1 1 [cu] [(0,(ad 72))])) (.bh (bP 74 (.app T.b T.a 1 8 (ad 64) (ad 73))) (.take (bd 75 1 10) (.bh (ys 75 74) .done .nil)) .nil) .nil))))))))))))),(15,(.dp (.take (bd 83 3 10) (.take (bk 84 83) (.take (dQ 85 (.di 5 (ad 4))) (.take (dQ 86 (.di 6 (ad 5))) (.take (aq 87 2) (.take (aq 88 14) (.alt (bY 89 (.fn F.FX [(ad 85),(ad 86),(ad 87),(ad 88)])) (.alt (bP 90 (.gb T.b 1 1 [ch] [(0,(ad 89))])) (.bh (bP 91 (.app T.HH T.b 1 24 (ad 84) (ad 90))) (.take (bd 92 3 10) (.bh (ys 92 91) .done .nil)) .nil) .nil) .nil))))))))),(19,(.dp (.take (bd 112 2 10) (.take (bk 113 112) (.take (aq 114 2) (.take (aq 115 15) (.take (aq 116 15) (.take (aq 117 16) (.take (fR .add T.a 118 116 117) (.take (bA 119 (.gJ 1 (ad 114) (some (ad 115)) (some (ad 118)) none)) (.bh (bP 120 (.app T.b T.a 1 8 (ad 113) (ad 119))) (.take (bd 121 2 10) (.bh (ys 121 120) .done .nil)) .nil)))))))))))] (bm Tryz.f85)⟩:=bg
theorem E.F1:bf F.F1 ⟨201,[.tmp 8,.tmp 9],bj Tryz.prog [21,23] [(5,(.dp (.take (dQ 38 (.di 13 (ad 4))) (.take (dQ 39 (.di 13 (ad 4))) (.take (aq 40 1) (.take (bd 41 1 7) (.take (bk 42 41) (.take (aq 43 10) (.take (bd 45 5 4) (.take (bd 46 2 45) (.take (bk 47 46) (.take (aq 48 2) (.take (dq 49 1 47 48) (.take (bk 50 49) (.take (gH .add T.a 51 50 1) (.take (bd 52 2 7) (.take (bk 53 52) (.take (fR .add T.a 54 51 53) (.take (aq 55 11) (.alt (bY 44 (.fn F.Cw [(ad 39),(ad 40),(ad 42),(ad 43)])) (.bh (bY 56 (.fn F.yB [(ad 38),(ad 44),(ad 54),(ad 55)])) (.take (bA 57 (.ext (ad 56) 0)) (.take (bA 58 (.ext (ad 56) 1)) (.take (aq 8 57) (.take (aq 9 58) .done)))) .nil) .nil)))))))))))))))))))),(12,(.dp (.take (dQ 79 (.di 13 (ad 4))) (.take (aq 80 1) (.take (bd 81 5 4) (.take (bd 82 0 81) (.take (bk 83 82) (.take (bd 84 1 7) (.take (bk 85 84) (.take (dq 86 1 83 85) (.take (bk 87 86) (.take (aq 88 14) (.bh (bY 89 (.fn F.yB [(ad 79),(ad 80),(ad 87),(ad 88)])) (.take (bA 90 (.ext (ad 89) 0)) (.take (bA 91 (.ext (ad 89) 1)) (.take (aq 8 90) (.take (aq 9 91) .done)))) .nil))))))))))))),(17,(.dp (.take (dQ 118 (.di 13 (ad 4))) (.take (aq 119 1) (.take (bd 120 5 4) (.take (bd 121 0 120) (.take (bk 122 121) (.take (bd 123 1 7) (.take (bk 124 123) (.take (dq 125 1 122 124) (.take (bk 126 125) (.take (aq 127 16) (.take (fR .add T.a 128 126 127) (.take (gH .sub T.a 129 128 1) (.take (aq 130 14) (.bh (bY 131 (.fn F.yB [(ad 118),(ad 119),(ad 129),(ad 130)])) (.take (bA 132 (.ext (ad 131) 0)) (.take (bA 133 (.ext (ad 131) 1)) (.take (aq 8 132) (.take (aq 9 133) .done)))) .nil)))))))))))))))),(19,(.dp (.take (dQ 136 (.di 13 (ad 4))) (.take (aq 137 1) (.take (bd 138 5 4) (.take (bd 139 2 138) (.take (bk 140 139) (.take (aq 141 2) (.take (dq 142 1 140 141) (.take (bk 143 142) (.take (gH .add T.a 144 143 1) (.take (bd 145 1 7) (.take (bk 146 145) (.take (fR .add T.a 147 144 146) (.take (aq 148 14) (.bh (bY 149 (.fn F.yB [(ad 136),(ad 137),(ad 147),(ad 148)])) (.take (bA 150 (.ext (ad 149) 0)) (.take (bA 151 (.ext (ad 149) 1)) (.take (aq 8 150) (.take (aq 9 151) .done)))) .nil))))))))))))))))] (bm Tryz.f86)⟩:=bg
theorem E.F3:bf F.F3 ⟨16,[.tmp 6],bj Tryz.prog [] [] (bm Tryz.f87)⟩:=bg
theorem E.KT:bf F.KT ⟨177,[.tmp 2],bj Tryz.prog [5,7,17,31] [(15,(.q6 [bd 83 3 9,bk 84 83,bA 85 (.xa (cf 0) (ad 84)),bd 86 4 9,bk 87 86,bA 88 (.u5 (cf 0) (ad 87)),aq 10 85,aq 11 88])),(26,(.dp (.take (bd 125 3 1) (.take (bk 126 125) (.take (aq 127 13) (.take (aq 128 14) (.take (dq 129 2 127 128) (.take (bd 130 0 129) (.take (bk 131 130) (.take (dq 132 5 126 131) (.take (dQ 133 (.di 5 (ad 132))) (.alt (bP 15 (.new T.l (.agg #[qO,cu,cu,ch,ch]))) (.bh (e8 (.gY 5 (ad 15) (ad 133))) .done .nil) .nil))))))))))))] (bm Tryz.f88)⟩:=bg
theorem E.KD:bf F.KD ⟨55,[.tmp 2,.tmp 3],bj Tryz.prog [11] [] (bm Tryz.f89)⟩:=bg
theorem E.KE:bf F.KE ⟨56,[.tmp 6,.tmp 7],bj Tryz.prog [11] [] (bm Tryz.f90)⟩:=bg
theorem E.w7:bf F.w7 ⟨18,[.tmp 4],bj Tryz.prog [] [] (bm Tryz.f91)⟩:=bg
theorem E.w6:bf F.w6 ⟨151,[.tmp 6],bj Tryz.prog [] [] (bm Tryz.f92)⟩:=bg
theorem E.KC:bf F.KC ⟨96,[.tmp 4,.tmp 5],bj Tryz.prog [11,15] [] (bm Tryz.f93)⟩:=bg
theorem E.FR:bf F.FR ⟨148,[.tmp 4,.tmp 5,.tmp 6],bj Tryz.prog [20,26,32] [] (bm Tryz.f94)⟩:=bg
theorem E.FU:bf F.FU ⟨42,[.jm 6 4],bj Tryz.prog [] [] (bm Tryz.f95)⟩:=bg
theorem E.KB:bf F.KB ⟨12,[.tmp 4],bj Tryz.prog [] [] (bm Tryz.f96)⟩:=bg
theorem E.KO:bf F.KO ⟨13,[.tmp 4],bj Tryz.prog [] [] (bm Tryz.f97)⟩:=bg
theorem E.Kk:bf F.Kk ⟨41,[.tmp 2],bj Tryz.prog [] [(1,(.dv [aq 5 0,bA 6 (.bin .eql T.p (ad 5) (.const qO)),aq 7 6,b3 7 false (aq 8 0),b3 7 false (bA 9 (.pg (ad 8))),b3 7 false (gH .gtr T.a 10 9 16),oS 11 7 10,aq 12 11,b3 12 false (aq 13 0),b3 12 false (bA 14 (.bin .eql T.p (ad 13) (.const (.string ⟨#[115,101,108,102]⟩)))),oS 15 12 14,aq 16 15,b3 16 false (aq 17 0),b3 16 false (bA 18 (.bin .eql T.p (ad 17) (.const (.string ⟨#[110,111,110,101]⟩)))),oS 19 16 18,aq 20 19,b3 20 false (aq 21 0),b3 20 false (bA 22 (.bin .eql T.p (ad 21) (.const (.string ⟨#[108,101,110]⟩)))),oS 23 20 22,aq 24 23,b3 24 false (aq 25 0),b3 24 false (bA 26 (.bin .eql T.p (ad 25) (.const (.string ⟨#[97,116]⟩)))),oS 27 24 26])),(4,(.dv [aq 33 4,gH .eql T.a 34 33 1,aq 35 34,b3 35 true (aq 36 3),b3 35 true (aq 37 0),b3 35 true (bA 38 (.pg (ad 37))),b3 35 true (fR .eql T.a 39 36 38),qa 40 35 39,aq 2 40]))] (bm Tryz.f98)⟩:=bg
theorem E.Ko:bf F.Ko ⟨107,[.tmp 4,.tmp 5],bj Tryz.prog [18,20,22] [] (bm Tryz.f99)⟩:=bg
theorem E.KX:bf F.KX ⟨82,[.tmp 6],bj Tryz.prog [2] [] (bm Tryz.f100)⟩:=bg
theorem E.KY:bf F.KY ⟨34,[.tmp 4],bj Tryz.prog [4] [] (bm Tryz.f101)⟩:=bg
theorem E.H5:bf F.H5 ⟨11,[.tmp 2,.tmp 3],bj Tryz.prog [] [] (bm Tryz.f102)⟩:=bg
noncomputable def C.d:mW:=⟨17,[],bj Tryz.prog [] [(1,(.sB [aq 10 0,aq 11 1,aq 12 2,aq 13 3,bA 14 (.gl [cu,cu,cu,cu] [(0,1),(1,1),(2,1),(3,1)] [(0,(ad 10)),(1,(ad 11)),(2,(ad 12)),(3,(ad 13))]),bA 15 (.gl [cu,cu,cu,cu] [(0,4)] [(0,(ad 14))]),bA 16 (.Az T.ij (ad 15))] (ad 16)))] (bm Tryz.f103)⟩
theorem E.d:lH Tryz.prog F.d=some C.d:=Ct
theorem E.q5:bf F.q5 ⟨17,[.tmp 6,.tmp 7],bj Tryz.prog [] [(1,(.dv [bk 8 3,jP 9 8,aq 10 2,bA 11 (.u5 (ad 10) (cf 0)),bA 12 (.u6 F.pG [] [(ad 3)]),bA 13 (.u6 F.ij [] [(ad 3),(ad 4)]),bY 14 (.fn F.DS [(ad 9),(ad 11),(ad 12),(ad 13)]),bA 15 (.ext (ad 14) 0),bA 16 (.ext (ad 14) 1),aq 6 15,aq 7 16]))] (bm Tryz.f104)⟩:=bg
noncomputable def C.p:mW:=⟨16,[],bj Tryz.prog [] [(0,(.dv [aq 8 0,aq 9 1,dQ 10 (.nT .string (.bool false) false (ad 8) (ad 9))])),(1,(.fG [aq 11 2,aq 12 3] (some 13) F.d [(cf 7),(ad 11),(ad 12),(cf 0)])),(2,(.dv [aq 14 0,aq 15 1,e8 (.j4 .string (ad 14) (ad 15) (iO true))]))] (bm Tryz.f105)⟩
theorem E.p:lH Tryz.prog F.p=some C.p:=Ct
theorem E.ds:bf F.ds ⟨13,[.tmp 4,.tmp 5],bj Tryz.prog [] [] (bm Tryz.f106)⟩:=bg
theorem E.cP:bf F.cP ⟨64,[.tmp 4,.tmp 5,.tmp 6],bj Tryz.prog [] [] (bm Tryz.f107)⟩:=bg
theorem E.DP:bf F.DP ⟨33,[.jm 6 4],bj Tryz.prog [] [(3,(.dp (.take (bd 24 3 2) (.take (bk 25 24) (.take (aq 26 1) (.take (dq 27 5 25 26) (.take (dQ 28 (.di 5 (ad 27))) (.take (dQ 29 (.di 6 (ad 5))) (.bh (bY 30 (.fn F.my [(ad 28),(ad 29)])) (.bh (e8 (.gY 6 (ad 5) (ad 30))) .done .nil) .nil)))))))))] (bm Tryz.f108)⟩:=bg
theorem E.H8:bf F.H8 ⟨79,[.tmp 2,.tmp 3,.tmp 4],bj Tryz.prog [] [(10,(.dv [aq 36 7,bd 37 2 11,bk 38 37,bA 39 (.u5 (ad 38) (cf 0)),bA 40 (.xa (ad 39) (cf 4)),bA 41 (.bin .add T.a (cf 1) (ad 40)),fR .add T.a 42 36 41,aq 7 42]))] (bm Tryz.f109)⟩:=bg
theorem E.H9:bf F.H9 ⟨34,[.tmp 2],bj Tryz.prog [] [(1,(.dv [aq 5 0,bA 6 (.bin .eql T.p (ad 5) (.const qO)),aq 7 6,b3 7 false (aq 8 0),b3 7 false (bA 9 (.pg (ad 8))),b3 7 false (gH .gtr T.a 10 9 16),oS 11 7 10,aq 12 11,b3 12 false (aq 13 0),b3 12 false (bA 14 (.mI (ad 13) (cf 0))),b3 12 false (bA 15 (.zt .i32 (ad 14))),b3 12 false (bY 16 (.fn F.bS [(ad 15)])),b3 12 false (bA 17 (.un .not (ad 16))),oS 18 12 17,aq 19 18,b3 19 false (aq 20 0),b3 19 false (bY 21 (.fn F.bW [(ad 20),(.func F.q1)])),b3 19 false (aq 22 0),b3 19 false (bA 23 (.pg (ad 22))),b3 19 false (fR .lss T.a 24 21 23),oS 25 19 24])),(5,(.dv [bA 29 (.yz 4 (ad 26) (ad 27)),aq 4 29]))] (bm Tryz.f110)⟩:=bg
theorem E.Ia:bf F.Ia ⟨15,[.tmp 4,.tmp 5],bj Tryz.prog [] [] (bm Tryz.f111)⟩:=bg
theorem E.Ib:bf F.Ib ⟨106,[.tmp 6],bj Tryz.prog [2,3,4] [] (bm Tryz.f112)⟩:=bg
theorem E.ny:bf F.ny ⟨39,[],bj Tryz.prog [] [] (bm Tryz.f113)⟩:=bg
theorem E.zy:bf F.zy ⟨32,[.tmp 4],bj Tryz.prog [] [] (bm Tryz.f114)⟩:=bg
theorem E.r3:bf F.r3 ⟨50,[.tmp 8],bj Tryz.prog [] [(5,(.dp (.wide (.take (bd 21 4 3) (.take (bk 22 21) (.take (bd 23 0 11) (.take (bk 24 23) (.take (bd 27 5 3) (.take (bk 28 27) (.take (bd 29 1 11) (.take (bk 30 29) (.alt (bP 25 (.gb T.a 1 1 [cu] [(0,(ad 24))])) (.alt (bP 26 (.app T.b T.a 1 8 (ad 22) (ad 25))) (.take (bd 33 4 3) (.alt (bP 31 (.gb T.a 1 1 [cu] [(0,(ad 30))])) (.bh (bP 32 (.app T.b T.a 1 8 (ad 28) (ad 31))) (.bh (ys 33 26) (.take (bd 34 5 3) (.bh (ys 34 32) .done .nil)) .nil) .nil) .nil)) (.alt (bP 31 (.gb T.a 1 1 [cu] [(0,(ad 30))])) (.alt (bP 26 (.app T.b T.a 1 8 (ad 22) (ad 25))) (.take (bd 33 4 3) (.bh (bP 32 (.app T.b T.a 1 8 (ad 28) (ad 31))) (.bh (ys 33 26) (.take (bd 34 5 3) (.bh (ys 34 32) .done .nil)) .nil) .nil)) .nil) .nil)) (.alt (bP 31 (.gb T.a 1 1 [cu] [(0,(ad 30))])) (.alt (bP 25 (.gb T.a 1 1 [cu] [(0,(ad 24))])) (.alt (bP 26 (.app T.b T.a 1 8 (ad 22) (ad 25))) (.take (bd 33 4 3) (.bh (bP 32 (.app T.b T.a 1 8 (ad 28) (ad 31))) (.bh (ys 33 26) (.take (bd 34 5 3) (.bh (ys 34 32) .done .nil)) .nil) .nil)) .nil) .nil) .nil)))))))))))))] (bm Tryz.f116)⟩:=bg
theorem E.sV:bf F.sV ⟨18,[.tmp 4],bj Tryz.prog [] [] (bm Tryz.f117)⟩:=bg
theorem E.vO:bf F.vO ⟨19,[.jm 3 4],bj Tryz.prog [] [] (bm Tryz.f118)⟩:=bg
theorem E.sW:bf F.sW ⟨38,[],bj Tryz.prog [] [(4,(.dp (.take (bd 18 0 7) (.take (bk 19 18) (.take (bk 20 2) (.take (fR .eql T.a 21 19 20) (.take (aq 22 21) (.take (b3 22 true (dQ 23 (.di 5 (ad 1)))) (.take (b3 22 true (aq 24 5)) (.take (b3 22 true (dQ 25 (.di 2 (ad 7)))) (.take (b3 22 true (bk 28 3)) (.alt (b3 22 true (bY 26 (.fn F.g [(ad 23),(ad 24),(ad 25)]))) (.take (b3 22 true (bA 27 (.gN 1 (ad 26)))) (.take (b3 22 true (fR .eql T.a 29 27 28)) (.take (qa 30 22 29) (.take (aq 31 30) (.take (b3 31 true (aq 32 0)) (.take (b3 31 true (aq 33 6)) (.bh (b3 31 true (bY 34 (.val (ad 32) [(ad 33)]))) (.take (b3 31 true (bA 35 (.un .not (ad 34)))) (.take (qa 36 31 35) .done)) .nil))))))) .nil))))))))))))] (bm Tryz.f119)⟩:=bg
theorem E.vX:bf F.vX ⟨41,[.tmp 4],bj Tryz.prog [4,6] [] (bm Tryz.f120)⟩:=bg
theorem E.Ic:bf F.Ic ⟨61,[.tmp 4,.jm 6 5,.tmp 6],bj Tryz.prog [] [(6,(.dp (.take (dQ 25 (.di 5 (ad 2))) (.take (dQ 26 (.di 5 (ad 2))) (.take (dQ 28 (.di 5 (ad 2))) (.take (aq 30 7) (.take (aq 31 1) (.take (dq 32 2 30 31) (.take (bd 33 0 32) (.take (bk 34 33) (.alt (bY 27 (.fn F.a [(ad 26)])) (.alt (bY 29 (.fn F.b [(ad 28)])) (.take (bA 35 (.gl [ch,ch,ch,ch,ch,ch,ch,ch,cu,ch,ch,ch,cu] [(0,5),(5,6),(11,1),(12,1)] [(0,(ad 25)),(1,(ad 27)),(2,(ad 29)),(3,(ad 34))])) (.bh (bP 36 (.box T.jG (ad 35))) (.take (aq 8 36) .done) .nil)) .nil) .nil))))))))))),(7,(.dp (.take (aq 37 8) (.take (bd 38 3 2) (.take (bk 39 38) (.take (aq 40 8) (.take (bA 41 (.fo (ad 40))) (.take (bd 42 11 41) (.take (bk 43 42) (.take (aq 44 8) (.take (bA 45 (.fo (ad 44))) (.take (bd 46 12 45) (.take (bk 47 46) (.take (dq 48 2 43 47) (.take (bd 49 0 48) (.take (bk 50 49) (.take (dq 51 5 39 50) (.take (bd 52 4 51) (.take (bk 53 52) (.take (aq 54 7) (.take (aq 55 1) (.take (dq 56 2 54 55) (.take (bd 57 1 56) (.take (bk 58 57) (.take (dq 59 6 53 58) (.take (dQ 60 (.di 6 (ad 59))) (.take (aq 4 37) (.bh (e8 (.gY 6 (ad 5) (ad 60))) (.take (fc 6 (iO true)) .done) .nil))))))))))))))))))))))))))))] (bm Tryz.f121)⟩:=bg
theorem E.f:bf F.f ⟨18,[],bj Tryz.prog [] [(3,(.dv [aq 11 0,aq 12 1,aq 13 6,fR .add T.a 14 12 13,dQ 15 (.nT (.int .i64) cu false (ad 11) (ad 14)),gH .add T.a 16 15 1,e8 (.j4 (.int .i64) (ad 11) (ad 14) (ad 16))]))] (bm Tryz.f122)⟩:=bg
theorem E.v:bf F.v ⟨14,[.tmp 2],bj Tryz.prog [1] [] (bm Tryz.f123)⟩:=bg
theorem E.d0:bf F.d0 ⟨9,[],bj Tryz.prog [] [] (bm Tryz.f124)⟩:=bg
theorem E.d1:bf F.d1 ⟨40,[],bj Tryz.prog [] [(5,(.dp (.take (aq 17 1) (.take (aq 18 0) (.take (bA 19 (.fo (ad 18))) (.take (bd 20 5 19) (.take (bd 21 1 20) (.take (bk 22 21) (.take (bd 23 1 5) (.take (bk 24 23) (.take (dq 25 1 22 24) (.take (bk 26 25) (.bh (bY 27 (.fn F.f [(ad 17),(ad 26),(cf 1)])) .done .nil)))))))))))))] (bm Tryz.f125)⟩:=bg
theorem E.d2:bf F.d2 ⟨66,[],bj Tryz.prog [] [(5,(.dp (.take (aq 17 0) (.take (aq 18 1) (.take (bd 19 1 5) (.take (bk 20 19) (.take (bd 21 3 5) (.take (bk 22 21) (.take (jP 23 22) (.take (gH .eql T.a 24 23 1) (.take (aq 25 24) (.take (b3 25 true (bd 26 3 5)) (.take (b3 25 true (bk 27 26)) (.take (b3 25 true (bA 28 (.mH 2 (ad 27) (cf 0)))) (.take (b3 25 true (bd 29 0 28)) (.take (b3 25 true (bk 30 29)) (.take (b3 25 true (gH .eql T.a 31 30 5)) (.take (qa 32 25 31) (.bh (bY 33 (.fn F.w [(ad 17),(ad 18),(ad 20),(iO true),(ad 32)])) .done .nil))))))))))))))))))),(7,(.dp (.take (aq 36 1) (.take (aq 37 0) (.take (bd 40 1 5) (.take (bk 41 40) (.alt (bY 38 (.fn F.v [(ad 37)])) (.take (gH .add T.a 39 38 1) (.take (fR .add T.a 42 39 41) (.bh (bY 43 (.fn F.f [(ad 36),(ad 42),(cf 1)])) .done .nil))) .nil))))))),(12,(.dp (.take (aq 58 1) (.take (aq 59 0) (.take (bd 62 2 5) (.take (bk 63 62) (.alt (bY 60 (.fn F.v [(ad 59)])) (.take (gH .add T.a 61 60 1) (.take (fR .add T.a 64 61 63) (.bh (bY 65 (.fn F.f [(ad 58),(ad 64),(cf 1)])) .done .nil))) .nil)))))))] (bm Tryz.f126)⟩:=bg
theorem E.d3:bf F.d3 ⟨6,[.tmp 2],bj Tryz.prog [] [] (bm Tryz.f127)⟩:=bg
theorem E.d4:bf F.d4 ⟨29,[.tmp 2],bj Tryz.prog [] [] (bm Tryz.f128)⟩:=bg
theorem E.d5:bf F.d5 ⟨87,[],bj Tryz.prog [5] [] (bm Tryz.f129)⟩:=bg
theorem E.DR:bf F.DR ⟨6,[],bj Tryz.prog [] [] (bm Tryz.f130)⟩:=bg
theorem E.d6:bf F.d6 ⟨17,[.tmp 2,.tmp 3],bj Tryz.prog [] [(3,(.dp (.take (dQ 8 (.di 5 (ad 1))) (.take (dQ 9 (.di 5 (ad 1))) (.take (dQ 11 (.di 5 (ad 1))) (.take (dQ 13 (.di 5 (ad 1))) (.alt (bY 10 (.fn F.a [(ad 9)])) (.alt (bY 12 (.fn F.b [(ad 11)])) (.alt (bY 14 (.fn F.c [(ad 13)])) (.take (bA 15 (.gl [ch,ch,ch,ch,ch,ch,ch,ch,cu,ch,ch,ch,ch] [(0,5),(5,6),(11,1),(12,1)] [(0,(ad 8)),(1,(ad 10)),(2,(ad 12)),(3,(ad 14))])) (.bh (bP 16 (.box T.a0 (ad 15))) (.take (aq 2 16) (.take (fc 3 (iO true)) .done)) .nil)) .nil) .nil) .nil)))))))] (bm Tryz.f132)⟩:=bg
theorem E.d7:bf F.d7 ⟨90,[.tmp 6,.tmp 7],bj Tryz.prog [4] [(1,(.dp (.take (aq 16 0) (.take (aq 17 2) (.take (aq 19 0) (.take (bA 20 (.fo (ad 19))) (.take (bd 21 12 20) (.take (bk 22 21) (.take (aq 23 2) (.take (dq 24 2 22 23) (.take (bd 25 0 24) (.take (bk 26 25) (.alt (bY 18 (.fn F.h [(ad 16),(ad 17)])) (.alt (bP 8 (.new T.m (.agg #[qO,cu,cu,ch,ch,(.bool false)]))) (.alt (e8 (.gY 6 (ad 8) (ad 18))) (.take (aq 9 26) .done) .nil) .nil) (.alt (bP 8 (.new T.m (.agg #[qO,cu,cu,ch,ch,(.bool false)]))) (.alt (bY 18 (.fn F.h [(ad 16),(ad 17)])) (.alt (e8 (.gY 6 (ad 8) (ad 18))) (.take (aq 9 26) .done) .nil) .nil) .nil)))))))))))))),(16,(.dp (.take (aq 78 10) (.take (bA 79 (.fo (ad 78))) (.take (bd 80 2 79) (.take (bk 81 80) (.take (aq 82 11) (.take (bd 83 2 8) (.take (bk 84 83) (.take (dq 85 1 81 82) (.bh (ys 85 84) .done .nil)))))))))))] (bm Tryz.f133)⟩:=bg
theorem E.nz:bf F.nz ⟨31,[.tmp 4],bj Tryz.prog [] [] (bm Tryz.f134)⟩:=bg
theorem E.h:bf F.h ⟨34,[.jm 6 4],bj Tryz.prog [] [(2,(.dp (.take (aq 13 0) (.take (bA 14 (.fo (ad 13))) (.take (bd 15 0 14) (.take (bd 16 3 15) (.take (bk 17 16) (.take (aq 18 0) (.take (bA 19 (.fo (ad 18))) (.take (bd 20 11 19) (.take (bk 21 20) (.take (bd 22 0 5) (.take (bk 23 22) (.take (dq 24 2 21 23) (.take (bd 25 0 24) (.take (bk 26 25) (.take (dq 27 5 17 26) (.take (bd 28 4 27) (.take (bk 29 28) (.take (bd 30 1 5) (.take (bk 31 30) (.take (dq 32 6 29 31) (.take (dQ 33 (.di 6 (ad 32))) (.bh (e8 (.gY 6 (ad 4) (ad 33))) .done .nil))))))))))))))))))))))))] (bm Tryz.f135)⟩:=bg
theorem E.d8:bf F.d8 ⟨39,[.tmp 8],bj Tryz.prog [] [(4,(.dp (.take (aq 29 11) (.take (aq 30 12) (.take (aq 31 13) (.take (bA 32 (.gJ 1 (ad 29) (some (ad 30)) (some (ad 31)) none)) (.take (aq 33 1) (.take (aq 34 12) (.take (aq 35 13) (.take (bA 36 (.gJ 1 (ad 33) (some (ad 34)) (some (ad 35)) none)) (.bh (bP 37 (.raw (.call ⟨.builtin .copy,#[(ad 32),(ad 36)],#[T.b,T.b]⟩) T.a)) .done .nil)))))))))))] (bm Tryz.f136)⟩:=bg
theorem E.Kp:bf F.Kp ⟨26,[.tmp 2],bj Tryz.prog [] [] (bm Tryz.f143)⟩:=bg
theorem E.Kz:bf F.Kz ⟨100,[.tmp 4,.tmp 5],bj Tryz.prog [21] [] (bm Tryz.f144)⟩:=bg
theorem E.Ku:bf F.Ku ⟨61,[.tmp 6,.tmp 7],bj Tryz.prog [] [] (bm Tryz.f145)⟩:=bg
theorem E.Kt:bf F.Kt ⟨80,[.tmp 6,.tmp 7],bj Tryz.prog [] [] (bm Tryz.f146)⟩:=bg
theorem E.FX:bf F.FX ⟨50,[.tmp 8],bj Tryz.prog [] [] (bm Tryz.f147)⟩:=bg
theorem E.K1:bf F.K1 ⟨19,[.tmp 2,.tmp 3,.tmp 4],bj Tryz.prog [] [(4,(.dp (.take (aq 11 0) (.take (jP 12 11) (.take (aq 13 5) (.take (bA 14 (.gJ 1 (ad 13) (some (cf 1)) none none)) (.take (aq 16 5) (.take (bA 17 (.mH 1 (ad 16) (cf 0))) (.take (bk 18 17) (.alt (bY 15 (.fn F.FY [(ad 12),(ad 14)])) (.take (aq 2 15) (.take (aq 3 18) (.take (fc 4 (iO true)) .done))) .nil))))))))))] (bm Tryz.f148)⟩:=bg
theorem E.yB:bf F.yB ⟨32,[.tmp 8,.tmp 9],bj Tryz.prog [] [] (bm Tryz.f149)⟩:=bg
theorem E.K0:bf F.K0 ⟨29,[.tmp 4,.tmp 5],bj Tryz.prog [] [] (bm Tryz.f150)⟩:=bg
theorem E.KA:bf F.KA ⟨17,[.tmp 4,.tmp 5],bj Tryz.prog [2] [] (bm Tryz.f151)⟩:=bg
theorem E.KU:bf F.KU ⟨7,[.tmp 2],bj Tryz.prog [] [] (bm Tryz.f152)⟩:=bg
theorem E.KF:bf F.KF ⟨69,[.tmp 4],bj Tryz.prog [5] [] (bm Tryz.f153)⟩:=bg
theorem E.FO:bf F.FO ⟨37,[.tmp 4],bj Tryz.prog [] [] (bm Tryz.f154)⟩:=bg
theorem E.FP:bf F.FP ⟨22,[.tmp 4],bj Tryz.prog [] [] (bm Tryz.f155)⟩:=bg
theorem E.KG:bf F.KG ⟨92,[.tmp 6,.tmp 7],bj Tryz.prog [15] [] (bm Tryz.f156)⟩:=bg
theorem E.Kl:bf F.Kl ⟨99,[.tmp 4,.tmp 5],bj Tryz.prog [] [(2,(.dv [aq 10 0,aq 11 1,bA 12 (.mI (ad 10) (ad 11)),bY 13 (.fn F.Cu [(ad 12)])])),(3,(.dv [aq 14 6,aq 15 0,bA 16 (.pg (ad 15)),fR .lss T.a 17 14 16,aq 18 17,b3 18 true (aq 19 0),b3 18 true (aq 20 6),b3 18 true (bA 21 (.mI (ad 19) (ad 20))),b3 18 true (bY 22 (.fn F.Cu [(ad 21)])),b3 18 true (aq 23 22),b3 23 false (aq 24 0),b3 23 false (aq 25 6),b3 23 false (bA 26 (.mI (ad 24) (ad 25))),b3 23 false (bY 27 (.fn F.Ax [(ad 26)])),b3 18 true (oS 28 23 27),b3 18 true (aq 29 28),b3 29 false (aq 30 0),b3 29 false (aq 31 6),b3 29 false (bA 32 (.mI (ad 30) (ad 31))),b3 29 false (bA 33 (.bin .eql T.a5 (ad 32) (.const (.int .u8 95)))),b3 18 true (oS 34 29 33),qa 35 18 34])),(6,(.dv [aq 41 0,aq 42 1,bA 43 (.mI (ad 41) (ad 42)),bY 44 (.fn F.Ax [(ad 43)])])),(7,(.dv [aq 45 6,aq 46 0,bA 47 (.pg (ad 46)),fR .lss T.a 48 45 47,aq 49 48,b3 49 true (aq 50 0),b3 49 true (aq 51 6),b3 49 true (bA 52 (.mI (ad 50) (ad 51))),b3 49 true (bY 53 (.fn F.Ax [(ad 52)])),qa 54 49 53])),(14,(.q6 [aq 67 0,bA 68 (.pg (ad 67)),aq 69 1,fR .sub T.a 70 68 69,aq 71 7,aq 72 8,dq 73 1 71 72,bk 74 73,bA 75 (.pg (ad 74)),fR .geq T.a 76 70 75,aq 77 76,b3 77 true (aq 78 0),b3 77 true (aq 79 1),b3 77 true (aq 80 1),b3 77 true (aq 81 7),b3 77 true (aq 82 8),b3 77 true (dq 83 1 81 82),b3 77 true (bk 84 83),b3 77 true (bA 85 (.pg (ad 84))),b3 77 true (fR .add T.a 86 80 85),b3 77 true (bA 87 (.yS (ad 78) (some (ad 79)) (some (ad 86)))),b3 77 true (aq 88 7),b3 77 true (aq 89 8),b3 77 true (dq 90 1 88 89),b3 77 true (bk 91 90),b3 77 true (fR .eql T.p 92 87 91),qa 93 77 92])),(15,(.dv [aq 94 7,aq 95 8,dq 96 1 94 95,bk 97 96,bA 98 (.pg (ad 97)),aq 4 98,fc 5 (cf 3)]))] (bm Tryz.f157)⟩:=bg
theorem E.Kv:bf F.Kv ⟨118,[.tmp 4,.tmp 5],bj Tryz.prog [27] [] (bm Tryz.f158)⟩:=bg
theorem E.Kw:bf F.Kw ⟨51,[.tmp 6,.tmp 7],bj Tryz.prog [] [] (bm Tryz.f159)⟩:=bg
theorem E.Ky:bf F.Ky ⟨27,[.tmp 6,.tmp 7],bj Tryz.prog [] [] (bm Tryz.f160)⟩:=bg
theorem E.DS:bf F.DS ⟨44,[.tmp 8,.tmp 9],bj Tryz.prog [] [(1,(.dv [bP 14 .tL,aq 10 14])),(12,(.dv [aq 34 10,aq 35 12,dQ 36 (.nT .string (.bool false) false (ad 34) (ad 35)),aq 33 36])),(16,(.dv [aq 41 10,aq 42 12,e8 (.j4 .string (ad 41) (ad 42) (iO true))]))] (bm Tryz.f161)⟩:=bg
theorem E.bv:bf F.bv ⟨9,[.tmp 3],bj Tryz.prog [] [] (bm Tryz.f162)⟩:=bg
theorem E.c9:bf F.c9 ⟨18,[.tmp 3],bj Tryz.prog [] [] (bm Tryz.f163)⟩:=bg
theorem E.pG:bf F.pG ⟨9,[.tmp 3],bj Tryz.prog [] [] (bm Tryz.f164)⟩:=bg
theorem E.ij:bf F.ij ⟨51,[.tmp 4],bj Tryz.prog [] [] (bm Tryz.f165)⟩:=bg
theorem E.hq:bf F.hq ⟨18,[.tmp 4],bj Tryz.prog [] [] (bm Tryz.f166)⟩:=bg
theorem E.Ii:bf F.Ii ⟨23,[.tmp 4,.tmp 5],bj Tryz.prog [2] [] (bm Tryz.f167)⟩:=bg
theorem E.Ij:bf F.Ij ⟨22,[.tmp 4],bj Tryz.prog [] [] (bm Tryz.f168)⟩:=bg
theorem E.bM:bf F.bM ⟨9,[.tmp 3],bj Tryz.prog [] [] (bm Tryz.f169)⟩:=bg
theorem E.kM:bf F.kM ⟨36,[.tmp 4],bj Tryz.prog [] [] (bm Tryz.f170)⟩:=bg
end Go.Proofs.R
end