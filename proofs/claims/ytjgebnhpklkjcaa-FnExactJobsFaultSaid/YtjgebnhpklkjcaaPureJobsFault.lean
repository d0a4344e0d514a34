/- The plain law: what the functions compute answers as the statement says. -/
import Derived.Test.YtjgebnhpklkjcaaEJobsFault
import Derived.Test.YtjgebnhpklkjcaaVArgs
namespace Go.Proofs.Ytjgebnhpklkjcaa.JobsFault
open Go Go.Proofs.Ytjgebnhpklkjcaa.V
set_option linter.unusedVariables false
set_option maxRecDepth 20000
def wf_i (x:Int):Prop:=(Lit.int .i64 x).wf=true
theorem un_i {bs:List B} (h:Sh.okL [.int .i64] bs):∃x:Int,bs=[(.val (.int .i64 x))]∧wf_i x:=by
  obtain⟨b0,m0,rfl,o0,h0⟩:=h
  obtain⟨x0,rfl,w0⟩:∃z:Int,b0=.val (.int .i64 z)∧(Lit.int .i64 z).wf=true:=by
    cases b0 with
    |val v=>
      cases v<;>first | exact o0.elim |(obtain⟨rfl,w⟩:=o0; exact⟨_,rfl,w⟩)
    |sl r=>exact o0.elim
  obtain rfl:=h0
  exact⟨x0,rfl,w0⟩
theorem uns_i:∀ {rows:List (List B)},(∀r∈rows,Sh.okL [.int .i64] r)→∃z:List Int,rows=z.map b_i∧∀u∈z,wf_i u
  |[],_=>⟨[],rfl,fun u h=>(by cases h)⟩
  |r::rows,h=>by
    obtain⟨x,e,w⟩:=un_i (h r (List.mem_cons_self ..))
    obtain⟨z,rfl,hz⟩:=uns_i (fun r hr=>h r (List.mem_cons_of_mem _ hr))
    refine⟨x::z,by rw[e]; rfl,fun u hu=>?_⟩
    rcases List.mem_cons.1 hu with rfl | hu
    · exact w
    · exact hz u hu
def wf_iiLiE (x:K_iiLiE):Prop:=(Lit.int .i64 x.f0).wf=true∧(Lit.int .i64 x.f1).wf=true∧(x.f2.length*8≤140737488351232∧∀z∈x.f2,wf_i z)
theorem un_iiLiE {bs:List B} (h:Sh.okL [.int .i64,.int .i64,.sl [.int .i64] 8] bs):∃x:K_iiLiE,bs=[(.val (.int .i64 x.f0)),(.val (.int .i64 x.f1)),(.sl (List.map b_i x.f2))]∧wf_iiLiE x:=by
  obtain⟨b0,m0,rfl,o0,h0⟩:=h
  obtain⟨x0,rfl,w0⟩:∃z:Int,b0=.val (.int .i64 z)∧(Lit.int .i64 z).wf=true:=by
    cases b0 with
    |val v=>
      cases v<;>first | exact o0.elim |(obtain⟨rfl,w⟩:=o0; exact⟨_,rfl,w⟩)
    |sl r=>exact o0.elim
  obtain⟨b1,m1,rfl,o1,h1⟩:=h0
  obtain⟨x1,rfl,w1⟩:∃z:Int,b1=.val (.int .i64 z)∧(Lit.int .i64 z).wf=true:=by
    cases b1 with
    |val v=>
      cases v<;>first | exact o1.elim |(obtain⟨rfl,w⟩:=o1; exact⟨_,rfl,w⟩)
    |sl r=>exact o1.elim
  obtain⟨b2,m2,rfl,o2,h2⟩:=h1
  obtain⟨x2,rfl,w2⟩:∃z:(List Int),b2=.sl (z.map b_i)∧z.length*8≤140737488351232∧∀u∈z,wf_i u:=by
    cases b2 with
    |val v=>cases v<;>exact o2.elim
    |sl r=>
      obtain⟨z,rfl,hz⟩:=uns_i o2.2
      exact⟨z,rfl,by simpa using o2.1,hz⟩
  obtain rfl:=h2
  exact⟨⟨x0,x1,x2⟩,rfl,⟨w0,w1,w2⟩⟩
theorem ok_wf_iiLiE (x:K_iiLiE) (w:wf_iiLiE x):ok_iiLiE x:=w.2.2.1
theorem uns_iiLiE:∀ {rows:List (List B)},(∀r∈rows,Sh.okL [.int .i64,.int .i64,.sl [.int .i64] 8] r)→∃z:List K_iiLiE,rows=z.map b_iiLiE∧∀u∈z,wf_iiLiE u
  |[],_=>⟨[],rfl,fun u h=>(by cases h)⟩
  |r::rows,h=>by
    obtain⟨x,e,w⟩:=un_iiLiE (h r (List.mem_cons_self ..))
    obtain⟨z,rfl,hz⟩:=uns_iiLiE (fun r hr=>h r (List.mem_cons_of_mem _ hr))
    refine⟨x::z,by rw[e]; rfl,fun u hu=>?_⟩
    rcases List.mem_cons.1 hu with rfl | hu
    · exact w
    · exact hz u hu
def wf_iLiE (x:K_iLiE):Prop:=(Lit.int .i64 x.f0).wf=true∧(x.f1.length*8≤140737488351232∧∀z∈x.f1,wf_i z)
theorem un_iLiE {bs:List B} (h:Sh.okL [.int .i64,.sl [.int .i64] 8] bs):∃x:K_iLiE,bs=[(.val (.int .i64 x.f0)),(.sl (List.map b_i x.f1))]∧wf_iLiE x:=by
  obtain⟨b0,m0,rfl,o0,h0⟩:=h
  obtain⟨x0,rfl,w0⟩:∃z:Int,b0=.val (.int .i64 z)∧(Lit.int .i64 z).wf=true:=by
    cases b0 with
    |val v=>
      cases v<;>first | exact o0.elim |(obtain⟨rfl,w⟩:=o0; exact⟨_,rfl,w⟩)
    |sl r=>exact o0.elim
  obtain⟨b1,m1,rfl,o1,h1⟩:=h0
  obtain⟨x1,rfl,w1⟩:∃z:(List Int),b1=.sl (z.map b_i)∧z.length*8≤140737488351232∧∀u∈z,wf_i u:=by
    cases b1 with
    |val v=>cases v<;>exact o1.elim
    |sl r=>
      obtain⟨z,rfl,hz⟩:=uns_i o1.2
      exact⟨z,rfl,by simpa using o1.1,hz⟩
  obtain rfl:=h1
  exact⟨⟨x0,x1⟩,rfl,⟨w0,w1⟩⟩
theorem ok_wf_iLiE (x:K_iLiE) (w:wf_iLiE x):ok_iLiE x:=w.2.1
theorem uns_iLiE:∀ {rows:List (List B)},(∀r∈rows,Sh.okL [.int .i64,.sl [.int .i64] 8] r)→∃z:List K_iLiE,rows=z.map b_iLiE∧∀u∈z,wf_iLiE u
  |[],_=>⟨[],rfl,fun u h=>(by cases h)⟩
  |r::rows,h=>by
    obtain⟨x,e,w⟩:=un_iLiE (h r (List.mem_cons_self ..))
    obtain⟨z,rfl,hz⟩:=uns_iLiE (fun r hr=>h r (List.mem_cons_of_mem _ hr))
    refine⟨x::z,by rw[e]; rfl,fun u hu=>?_⟩
    rcases List.mem_cons.1 hu with rfl | hu
    · exact w
    · exact hz u hu
def wf_iLiiLiEELiLiEE (x:K_iLiiLiEELiLiEE):Prop:=(Lit.int .i64 x.f0).wf=true∧(x.f1.length*40≤140737488351232∧∀z∈x.f1,wf_iiLiE z)∧(x.f2.length*32≤140737488351232∧∀z∈x.f2,wf_iLiE z)
theorem un_iLiiLiEELiLiEE {bs:List B} (h:Sh.okL [.int .i64,.sl [.int .i64,.int .i64,.sl [.int .i64] 8] 40,.sl [.int .i64,.sl [.int .i64] 8] 32] bs):∃x:K_iLiiLiEELiLiEE,bs=[(.val (.int .i64 x.f0)),(.sl (List.map b_iiLiE x.f1)),(.sl (List.map b_iLiE x.f2))]∧wf_iLiiLiEELiLiEE x:=by
  obtain⟨b0,m0,rfl,o0,h0⟩:=h
  obtain⟨x0,rfl,w0⟩:∃z:Int,b0=.val (.int .i64 z)∧(Lit.int .i64 z).wf=true:=by
    cases b0 with
    |val v=>
      cases v<;>first | exact o0.elim |(obtain⟨rfl,w⟩:=o0; exact⟨_,rfl,w⟩)
    |sl r=>exact o0.elim
  obtain⟨b1,m1,rfl,o1,h1⟩:=h0
  obtain⟨x1,rfl,w1⟩:∃z:(List K_iiLiE),b1=.sl (z.map b_iiLiE)∧z.length*40≤140737488351232∧∀u∈z,wf_iiLiE u:=by
    cases b1 with
    |val v=>cases v<;>exact o1.elim
    |sl r=>
      obtain⟨z,rfl,hz⟩:=uns_iiLiE o1.2
      exact⟨z,rfl,by simpa using o1.1,hz⟩
  obtain⟨b2,m2,rfl,o2,h2⟩:=h1
  obtain⟨x2,rfl,w2⟩:∃z:(List K_iLiE),b2=.sl (z.map b_iLiE)∧z.length*32≤140737488351232∧∀u∈z,wf_iLiE u:=by
    cases b2 with
    |val v=>cases v<;>exact o2.elim
    |sl r=>
      obtain⟨z,rfl,hz⟩:=uns_iLiE o2.2
      exact⟨z,rfl,by simpa using o2.1,hz⟩
  obtain rfl:=h2
  exact⟨⟨x0,x1,x2⟩,rfl,⟨w0,w1,w2⟩⟩
theorem ok_wf_iLiiLiEELiLiEE (x:K_iLiiLiEELiLiEE) (w:wf_iLiiLiEELiLiEE x):ok_iLiiLiEELiLiEE x:=⟨w.2.1.1,fun z hz=>ok_wf_iiLiE z (w.2.1.2 z hz),w.2.2.1,fun z hz=>ok_wf_iLiE z (w.2.2.2 z hz)⟩
theorem uns_iLiiLiEELiLiEE:∀ {rows:List (List B)},(∀r∈rows,Sh.okL [.int .i64,.sl [.int .i64,.int .i64,.sl [.int .i64] 8] 40,.sl [.int .i64,.sl [.int .i64] 8] 32] r)→∃z:List K_iLiiLiEELiLiEE,rows=z.map b_iLiiLiEELiLiEE∧∀u∈z,wf_iLiiLiEELiLiEE u
  |[],_=>⟨[],rfl,fun u h=>(by cases h)⟩
  |r::rows,h=>by
    obtain⟨x,e,w⟩:=un_iLiiLiEELiLiEE (h r (List.mem_cons_self ..))
    obtain⟨z,rfl,hz⟩:=uns_iLiiLiEELiLiEE (fun r hr=>h r (List.mem_cons_of_mem _ hr))
    refine⟨x::z,by rw[e]; rfl,fun u hu=>?_⟩
    rcases List.mem_cons.1 hu with rfl | hu
    · exact w
    · exact hz u hu
def wf_iiiiiLiLiiLiEELiLiEEE (x:K_iiiiiLiLiiLiEELiLiEEE):Prop:=(Lit.int .i64 x.f0).wf=true∧(Lit.int .i64 x.f1).wf=true∧(Lit.int .i64 x.f2).wf=true∧(Lit.int .i64 x.f3).wf=true∧(Lit.int .i64 x.f4).wf=true∧(x.f5.length*56≤140737488351232∧∀z∈x.f5,wf_iLiiLiEELiLiEE z)
theorem un_iiiiiLiLiiLiEELiLiEEE {bs:List B} (h:Sh.okL [.int .i64,.int .i64,.int .i64,.int .i64,.int .i64,.sl [.int .i64,.sl [.int .i64,.int .i64,.sl [.int .i64] 8] 40,.sl [.int .i64,.sl [.int .i64] 8] 32] 56] bs):∃x:K_iiiiiLiLiiLiEELiLiEEE,bs=[(.val (.int .i64 x.f0)),(.val (.int .i64 x.f1)),(.val (.int .i64 x.f2)),(.val (.int .i64 x.f3)),(.val (.int .i64 x.f4)),(.sl (List.map b_iLiiLiEELiLiEE x.f5))]∧wf_iiiiiLiLiiLiEELiLiEEE x:=by
  obtain⟨b0,m0,rfl,o0,h0⟩:=h
  obtain⟨x0,rfl,w0⟩:∃z:Int,b0=.val (.int .i64 z)∧(Lit.int .i64 z).wf=true:=by
    cases b0 with
    |val v=>
      cases v<;>first | exact o0.elim |(obtain⟨rfl,w⟩:=o0; exact⟨_,rfl,w⟩)
    |sl r=>exact o0.elim
  obtain⟨b1,m1,rfl,o1,h1⟩:=h0
  obtain⟨x1,rfl,w1⟩:∃z:Int,b1=.val (.int .i64 z)∧(Lit.int .i64 z).wf=true:=by
    cases b1 with
    |val v=>
      cases v<;>first | exact o1.elim |(obtain⟨rfl,w⟩:=o1; exact⟨_,rfl,w⟩)
    |sl r=>exact o1.elim
  obtain⟨b2,m2,rfl,o2,h2⟩:=h1
  obtain⟨x2,rfl,w2⟩:∃z:Int,b2=.val (.int .i64 z)∧(Lit.int .i64 z).wf=true:=by
    cases b2 with
    |val v=>
      cases v<;>first | exact o2.elim |(obtain⟨rfl,w⟩:=o2; exact⟨_,rfl,w⟩)
    |sl r=>exact o2.elim
  obtain⟨b3,m3,rfl,o3,h3⟩:=h2
  obtain⟨x3,rfl,w3⟩:∃z:Int,b3=.val (.int .i64 z)∧(Lit.int .i64 z).wf=true:=by
    cases b3 with
    |val v=>
      cases v<;>first | exact o3.elim |(obtain⟨rfl,w⟩:=o3; exact⟨_,rfl,w⟩)
    |sl r=>exact o3.elim
  obtain⟨b4,m4,rfl,o4,h4⟩:=h3
  obtain⟨x4,rfl,w4⟩:∃z:Int,b4=.val (.int .i64 z)∧(Lit.int .i64 z).wf=true:=by
    cases b4 with
    |val v=>
      cases v<;>first | exact o4.elim |(obtain⟨rfl,w⟩:=o4; exact⟨_,rfl,w⟩)
    |sl r=>exact o4.elim
  obtain⟨b5,m5,rfl,o5,h5⟩:=h4
  obtain⟨x5,rfl,w5⟩:∃z:(List K_iLiiLiEELiLiEE),b5=.sl (z.map b_iLiiLiEELiLiEE)∧z.length*56≤140737488351232∧∀u∈z,wf_iLiiLiEELiLiEE u:=by
    cases b5 with
    |val v=>cases v<;>exact o5.elim
    |sl r=>
      obtain⟨z,rfl,hz⟩:=uns_iLiiLiEELiLiEE o5.2
      exact⟨z,rfl,by simpa using o5.1,hz⟩
  obtain rfl:=h5
  exact⟨⟨x0,x1,x2,x3,x4,x5⟩,rfl,⟨w0,w1,w2,w3,w4,w5⟩⟩
theorem ok_wf_iiiiiLiLiiLiEELiLiEEE (x:K_iiiiiLiLiiLiEELiLiEEE) (w:wf_iiiiiLiLiiLiEELiLiEEE x):ok_iiiiiLiLiiLiEELiLiEEE x:=⟨w.2.2.2.2.2.1,fun z hz=>ok_wf_iLiiLiEELiLiEE z (w.2.2.2.2.2.2 z hz)⟩
theorem uns_iiiiiLiLiiLiEELiLiEEE:∀ {rows:List (List B)},(∀r∈rows,Sh.okL [.int .i64,.int .i64,.int .i64,.int .i64,.int .i64,.sl [.int .i64,.sl [.int .i64,.int .i64,.sl [.int .i64] 8] 40,.sl [.int .i64,.sl [.int .i64] 8] 32] 56] r)→∃z:List K_iiiiiLiLiiLiEELiLiEEE,rows=z.map b_iiiiiLiLiiLiEELiLiEEE∧∀u∈z,wf_iiiiiLiLiiLiEELiLiEEE u
  |[],_=>⟨[],rfl,fun u h=>(by cases h)⟩
  |r::rows,h=>by
    obtain⟨x,e,w⟩:=un_iiiiiLiLiiLiEELiLiEEE (h r (List.mem_cons_self ..))
    obtain⟨z,rfl,hz⟩:=uns_iiiiiLiLiiLiEELiLiEEE (fun r hr=>h r (List.mem_cons_of_mem _ hr))
    refine⟨x::z,by rw[e]; rfl,fun u hu=>?_⟩
    rcases List.mem_cons.1 hu with rfl | hu
    · exact w
    · exact hz u hu
def wf_LiiiiiLiLiiLiEELiLiEEEE (x:(List K_iiiiiLiLiiLiEELiLiEEE)):Prop:=(x.length*64≤140737488351232∧∀z∈x,wf_iiiiiLiLiiLiEELiLiEEE z)
theorem un_LiiiiiLiLiiLiEELiLiEEEE {bs:List B} (h:Sh.okL [.sl [.int .i64,.int .i64,.int .i64,.int .i64,.int .i64,.sl [.int .i64,.sl [.int .i64,.int .i64,.sl [.int .i64] 8] 40,.sl [.int .i64,.sl [.int .i64] 8] 32] 56] 64] bs):∃x:(List K_iiiiiLiLiiLiEELiLiEEE),bs=[(.sl (List.map b_iiiiiLiLiiLiEELiLiEEE x))]∧wf_LiiiiiLiLiiLiEELiLiEEEE x:=by
  obtain⟨b0,m0,rfl,o0,h0⟩:=h
  obtain⟨x0,rfl,w0⟩:∃z:(List K_iiiiiLiLiiLiEELiLiEEE),b0=.sl (z.map b_iiiiiLiLiiLiEELiLiEEE)∧z.length*64≤140737488351232∧∀u∈z,wf_iiiiiLiLiiLiEELiLiEEE u:=by
    cases b0 with
    |val v=>cases v<;>exact o0.elim
    |sl r=>
      obtain⟨z,rfl,hz⟩:=uns_iiiiiLiLiiLiEELiLiEEE o0.2
      exact⟨z,rfl,by simpa using o0.1,hz⟩
  obtain rfl:=h0
  exact⟨x0,rfl,w0⟩
theorem in_iff (a b c:Int):m18 a b c=true↔b≤a∧a≤c:=by
  unfold m18; split<;>simp_all<;>omega
theorem l1In_iff (a b c:Int):m27 a b c=true↔b≤a∧a≤c:=by
  unfold m27; split<;>simp_all<;>omega
theorem in_eq (a b c:Int):m18 a b c=m27 a b c:=by
  rw[Bool.eq_iff_iff,in_iff,l1In_iff]

theorem wrap8 (x:Int):IntKind.wrap .u8 x=x % 256:=by simp[IntKind.wrap,IntKind.bits,IntKind.signed]
theorem fd8 (x:Int):Int.fdiv x (2 ^(min (Int.toNat 8) (IntKind.bits .i64)))=x / 256:=by
  rw[show (2 ^(min (Int.toNat 8) (IntKind.bits .i64)):Int)=256 from rfl]; exact Int.fdiv_eq_ediv_of_nonneg _ (by decide)
theorem fd16 (x:Int):Int.fdiv x (2 ^(min (Int.toNat 16) (IntKind.bits .i64)))=x / 65536:=by
  rw[show (2 ^(min (Int.toNat 16) (IntKind.bits .i64)):Int)=65536 from rfl]; exact Int.fdiv_eq_ediv_of_nonneg _ (by decide)
theorem fd24 (x:Int):Int.fdiv x (2 ^(min (Int.toNat 24) (IntKind.bits .i64)))=x / 16777216:=by
  rw[show (2 ^(min (Int.toNat 24) (IntKind.bits .i64)):Int)=16777216 from rfl]; exact Int.fdiv_eq_ediv_of_nonneg _ (by decide)
theorem four_is (a:Int):m97 a=[a / 16777216 % 256,a / 65536 % 256,a / 256 % 256,a % 256]:=by
  unfold m97
  simp only[fd8,fd16,fd24,wrap8]
theorem high4_is (a:Int):m68 a 4=[a / 256 / 256 / 256 % 256,a / 256 / 256 % 256,a / 256 % 256,a % 256]:=by
  have h:m68 a 4=[IntKind.wrap .u8 (Int.fdiv (Int.fdiv (Int.fdiv a (2 ^(min (Int.toNat 8) (IntKind.bits .i64)))) (2 ^(min (Int.toNat 8) (IntKind.bits .i64)))) (2 ^(min (Int.toNat 8) (IntKind.bits .i64)))),IntKind.wrap .u8 (Int.fdiv (Int.fdiv a (2 ^(min (Int.toNat 8) (IntKind.bits .i64)))) (2 ^(min (Int.toNat 8) (IntKind.bits .i64)))),IntKind.wrap .u8 (Int.fdiv a (2 ^(min (Int.toNat 8) (IntKind.bits .i64)))),IntKind.wrap .u8 a]:=by kernel_rfl
  rw[h]
  simp only[fd8,wrap8]
theorem high4_eq (a:Int):m68 a 4=m97 a:=by
  rw[high4_is,four_is]
  have h1:a / 256 / 256 / 256=a / 16777216:=by omega
  have h2:a / 256 / 256=a / 65536:=by omega
  rw[h1,h2]
theorem sum_loop (a b:List Int):∀(l:List Int) (i j v:Int),(match r54_0 a l i v with | .k0 w .. =>w)=(match r82_0 b l j v with | .k0 w .. =>w)
  |[],i,j,v=>rfl
  |x::l,i,j,v=>by
    simp only[r54_0,r82_0]
    rw[Int.mul_comm 33 v]
    exact sum_loop a b l (i+1) (j+1) _
theorem sum_eq (a:List Int):m54 a=m82 a:=by
  unfold m54 m82
  exact sum_loop a a a 0 0 5381
def Bs (l:List Int):Prop:=∀z∈l,(0:Int)≤z∧z≤255
theorem Bs.append {l m:List Int} (h:Bs l) (k:Bs m):Bs (l++m):=fun z hz=>by
  rcases List.mem_append.1 hz with hz | hz
  · exact h z hz
  · exact k z hz
theorem sum_range (a:List Int):∀(l:List Int) (i v:Int),Bs l→0≤v→v≤2147483646→0≤(match r82_0 a l i v with | .k0 w .. =>w)∧(match r82_0 a l i v with | .k0 w .. =>w)≤2147483646
  |[],i,v,_,h1,h2=>⟨h1,h2⟩
  |x::l,i,v,hb,h1,h2=>by
    have hx:=hb x (List.mem_cons_self ..)
    simp only[r82_0]
    rw[wrap64 (x:=v*33) (by omega),wrap64 (x:=x) (by omega),wrap64 (x:=v*33+x) (by omega),wrap64 (x:=v*33+x+1) (by omega)]
    have e1:=Int.tmod_nonneg (a:=v*33+x+1) 2147483647 (by omega)
    have e2:=Int.tmod_lt_of_pos (v*33+x+1) (show (0:Int) < 2147483647 by omega)
    exact sum_range a l (i+1) _ (fun z hz=>hb z (List.mem_cons_of_mem _ hz)) e1 (by omega)
theorem sum_ok {a:List Int} (h:Bs a):0≤m82 a∧m82 a≤2147483646:=by
  unfold m82
  exact sum_range a a 0 5381 h (by omega) (by omega)
theorem si_loop (a b:List Int):∀(l:List Int) (i j:Int) (v:List Int),(match r52_0 a l i v with | .k0 w .. =>w)=(match r91_0 b l j v with | .k0 w .. =>w)
  |[],i,j,v=>rfl
  |x::l,i,j,v=>by
    simp only[r52_0,r91_0,high4_eq]
    exact si_loop a b l _ _ _
theorem si_eq (a:List Int):m52 a=m91 a:=by
  have h:=si_loop a a a 0 0 []
  unfold m52 m91
  cases h1:r52_0 a a 0 [] with
  |k0 w j b=>
    cases h2:r91_0 a a 0 [] with
    |k0 w2 j2 b2=>
      rw[h1,h2] at h
      simp only[] at h⊢
      subst h
      exact sum_eq _

theorem ab2 (a b:Int):m61 [a,b]=[m91 [a,b]]:=by kernel_rfl
theorem ab3 (a b c:Int):m61 [a,b,c]=[m91 [a,b],m91 [c,c]]:=by kernel_rfl
theorem ab4 (a b c d:Int):m61 [a,b,c,d]=[m91 [a,b],m91 [c,d]]:=by kernel_rfl
theorem av2 (a b:Int):m35 [a,b]=[m91 [a,b]]:=by
  rw[← si_eq]; kernel_rfl
theorem av3 (a b c:Int):m35 [a,b,c]=[m91 [a,b],m91 [c,c]]:=by
  rw[← si_eq,← si_eq]; kernel_rfl
theorem av4 (a b c d:Int):m35 [a,b,c,d]=[m91 [a,b],m91 [c,d]]:=by
  rw[← si_eq,← si_eq]; kernel_rfl
def tS (l:List Int) (n:Nat):Bool:=match r43_0 n l with | .k0 .. =>false | .k1=>true
def tI (l:List Int) (n:Nat):Bool:=match r23_0 n l with | .k0 .. =>false | .k1=>true
theorem tS1 (n:Nat) (a:Int):tS [a] (n+1)=false:=by kernel_rfl
theorem tI1 (n:Nat) (a:Int):tI [a] (n+1)=false:=by kernel_rfl
theorem tS2 (n:Nat) (a b:Int):tS [a,b] (n+2)=(a==b):=by
  have e:r43_1 [a,b] (Int.toNat ((List.length [a,b]:Int) - 0)) 0=if(a==b)=true then .k1 else .k0 2 false:=by kernel_rfl
  unfold tS
  rw[r43_0,if_pos (by simp),e,ab2]
  by_cases h:(a==b)=true
  · rw[if_pos h,h]
  · have h':(a==b)=false:=by simpa using h
    rw[if_neg h,h']; exact tS1 n (m91 [a,b])
theorem tI2 (n:Nat) (a b:Int):tI [a,b] (n+2)=(a==b):=by
  have e:r23_1 [a,b] (Int.toNat ((List.length [a,b]:Int) - 1)) 1=if(a==b)=true then .k1 else .k0 3 false:=by kernel_rfl
  unfold tI
  rw[r23_0,if_pos (by simp),e,av2]
  by_cases h:(a==b)=true
  · rw[if_pos h,h]
  · have h':(a==b)=false:=by simpa using h
    rw[if_neg h,h']; exact tI1 n (m91 [a,b])
theorem t3 (n:Nat) (a b c:Int):tI [a,b,c] (n+3)=tS [a,b,c] (n+3):=by
  have e:r43_1 [a,b,c] (Int.toNat ((List.length [a,b,c]:Int) - 0)) 0=if(a==b)=true then .k1 else .k0 2 false:=by kernel_rfl
  have e2:r23_1 [a,b,c] (Int.toNat ((List.length [a,b,c]:Int) - 1)) 1=if(a==b)=true then .k1 else .k0 3 false:=by kernel_rfl
  unfold tI tS
  rw[r23_0,r43_0,if_pos (by simp),if_pos (by simp),e,e2,ab3,av3]
  by_cases h:(a==b)=true
  · rw[if_pos h,if_pos h]
  · rw[if_neg h,if_neg h]; exact(tI2 n _ _).trans (tS2 n _ _).symm
theorem t4 (n:Nat) (a b c d:Int):tI [a,b,c,d] (n+3)=tS [a,b,c,d] (n+3):=by
  have e:r43_1 [a,b,c,d] (Int.toNat ((List.length [a,b,c,d]:Int) - 0)) 0=if(a==b)=true then .k1 else if(c==d)=true then .k1 else .k0 4 false:=by kernel_rfl
  have e2:r23_1 [a,b,c,d] (Int.toNat ((List.length [a,b,c,d]:Int) - 1)) 1=if(a==b)=true then .k1 else if(c==d)=true then .k1 else .k0 5 false:=by kernel_rfl
  unfold tI tS
  rw[r23_0,r43_0,if_pos (by simp),if_pos (by simp),e,e2,ab4,av4]
  by_cases h:(a==b)=true
  · rw[if_pos h,if_pos h]
  · rw[if_neg h,if_neg h]
    by_cases h2:(c==d)=true
    · rw[if_pos h2,if_pos h2]
    · rw[if_neg h2,if_neg h2]; exact(tI2 n _ _).trans (tS2 n _ _).symm
def InS (x:Int):Prop:=0≤x∧x≤2147483646
theorem sf_loop (a:List Int):∀(l:List Int) (i:Int),(∀x∈l,InS x)→(match r1006502_0 a l i with | .k0 .. =>(-1:Int) | .k1 w=>w)= -1
  |[],i,_=>rfl
  |x::l,i,h=>by
    simp only[r1006502_0]
    rw[if_neg (by rw[(in_iff _ _ _).2 (h x (List.mem_cons_self ..))]; simp)]
    exact sf_loop a l _ (fun u hu=>h u (List.mem_cons_of_mem _ hu))
theorem leaves_ok {l:List Int} (h0:1≤l.length) (h1:l.length≤8) (h:∀x∈l,InS x):m34 l=0:=by
  unfold m34
  rw[if_neg (by rw[(in_iff _ _ _).2 (by simp only[List.length_map]; omega)]; simp)]
  have e:m1006502 l= -1:=sf_loop l l 0 h
  unfold m51
  rw[e]; rfl
theorem twin_eq {l:List Int} (h0:1≤l.length) (h1:l.length≤4) (h:∀x∈l,InS x):m23 l=m43 l:=by
  unfold m23
  rw[leaves_ok h0 (by omega) h,if_neg (by decide)]
  show tI l l.length=tS l l.length
  match l,h0,h1 with
  |[a],_,_=>exact(tI1 0 a).trans (tS1 0 a).symm
  |[a,b],_,_=>exact(tI2 0 a b).trans (tS2 0 a b).symm
  |[a,b,c],_,_=>exact t3 0 a b c
  |[a,b,c,d],_,_=>exact t4 1 a b c d
  |[],h,_=>simp at h
  |_::_::_::_::_::_,_,h=>simp at h

theorem wrap88 (x:Int):IntKind.wrap .u8 (IntKind.wrap .i64 x)=x % 256:=by
  rw[wrap8]
  show (if(true && decide (x % 18446744073709551616≥9223372036854775808))=true then x % 18446744073709551616 - 18446744073709551616 else x % 18446744073709551616) % 256=x % 256
  split<;>omega
theorem put_eq (n:Int):m69 n=m92 n:=by
  unfold m69 m92
  by_cases h:(decide (n < 253))=true
  · rw[if_pos h,if_pos h]
  · rw[if_neg h,if_neg h]
    have h2:253≤n:=by simp only[decide_eq_true_eq] at h; omega
    rw[fd8,Int.tmod_eq_emod_of_nonneg (by omega),wrap88,Int.tdiv_eq_ediv_of_nonneg (by omega),wrap8,wrap8,wrap8]
    congr 1
    congr 1
    omega
theorem big_eq (n:Int):m71 n=m93 n:=by
  unfold m71 m93
  rw[put_eq,put_eq]
theorem num_loop (a b:List Int):∀(l:List Int) (i j:Int) (v:List Int),(match r72_0 a l i v with | .k0 w .. =>w)=(match r94_0 b l j v with | .k0 w .. =>w)
  |[],i,j,v=>rfl
  |x::l,i,j,v=>by
    simp only[r72_0,r94_0,put_eq]
    exact num_loop a b l _ _ _
theorem num_eq (a:List Int):m72 a=m94 a:=by
  unfold m72 m94
  rw[put_eq]
  exact num_loop a a a 0 0 _
theorem num_nil:m72 []=[0]:=by kernel_rfl
theorem pk_loop0 (a b:K_iLiiLiEELiLiEE):∀(l:List K_iiLiE) (i j:Int) (v:List Int),v.length+60*l.length≤260→(match r55_0 a (l.map bare) i v with | .k0 w .. =>w)=(match r83_0 b false l j v with | .k0 w .. =>w)
  |[],i,j,v,_=>rfl
  |x::l,i,j,v,h=>by
    have q1:=pl92 x.f1
    have q2:=pb93 x.f0
    simp only[List.length_cons] at h
    simp only[r55_0,r83_0,List.map_cons,bare,put_eq,big_eq,num_nil]
    rw[cat4 (by simp only[List.length_cons,List.length_nil]; omega),if_neg (by simp)]
    exact pk_loop0 a b l _ _ _ (by simp only[List.length_append,List.length_cons,List.length_nil]; omega)
theorem pk_loop1 (a b:K_iLiiLiEELiLiEE):∀(l:List K_iLiE) (i j:Int) (v:List Int),(∀x∈l,List.length x.f1≤12)→v.length+60*l.length≤520→(match r55_1 a l i v with | .k0 w .. =>w)=(match r83_1 b l j v with | .k0 w .. =>w)
  |[],i,j,v,_,_=>rfl
  |x::l,i,j,v,z,h=>by
    have q1:=z x (List.mem_cons_self ..)
    have q2:=pb93 x.f0
    have q3:=pn94 x.f1
    simp only[List.length_cons] at h
    simp only[r55_1,r83_1,num_eq,big_eq]
    rw[cat3 (by omega)]
    exact pk_loop1 a b l _ _ _ (fun u hu=>z u (List.mem_cons_of_mem _ hu)) (by simp only[List.length_append]; omega)
theorem pack_eq (t:K_iLiiLiEELiLiEE) (h:SmT t):m55 (K_iLiiLiEELiLiEE.mk t.f0 (t.f1.map bare) t.f2)=m83 t false:=by
  obtain⟨h1,h2,h3,h4⟩:=h
  have q0:=pl92 t.f0
  have q1:=pl92 (t.f1.length:Int)
  have q2:=pl92 (t.f2.length:Int)
  have e:=pk_loop0 (K_iLiiLiEELiLiEE.mk t.f0 (t.f1.map bare) t.f2) t t.f1 0 0 (m92 t.f0++m92 (t.f1.length:Int)) (by simp only[List.length_append]; omega)
  unfold m55 m83
  simp only[put_eq,List.length_map]
  cases g:r83_0 t false t.f1 0 (m92 t.f0++m92 (t.f1.length:Int)) with
  |k0 w j b=>
    rw[g] at e
    have q:=lk83_0 h2 g
    simp only[List.length_append] at q
    cases g2:r55_0 (K_iLiiLiEELiLiEE.mk t.f0 (t.f1.map bare) t.f2) (t.f1.map bare) 0 (m92 t.f0++m92 (t.f1.length:Int)) with
    |k0 w2 j2 b2=>
      rw[g2] at e
      simp only[] at e⊢
      subst e
      exact pk_loop1 _ t t.f2 0 0 _ h4 (by simp only[List.length_append]; omega)
theorem txsum_eq (t:K_iLiiLiEELiLiEE) (h:SmT t):m36 t=m82 (m83 t false):=by
  unfold m36
  cases g:r36_0 t t.f1 0 [] with
  |k0 w j b=>
    rw[lk36 g]
    simp only[List.nil_append]
    rw[pack_eq t h,sum_eq]
theorem Bs_put (n:Int):Bs (m92 n):=by
  unfold m92
  intro z hz
  split at hz<;>simp only[List.mem_cons,List.not_mem_nil,or_false,wrap8] at hz
  · subst hz; omega
  · rcases hz with rfl | rfl | rfl<;>omega
theorem Bs_big (n:Int):Bs (m93 n):=by
  unfold m93
  exact(Bs_put _).append (Bs_put _)
theorem Bs_list (a:List Int):∀(l:List Int) (i:Int) (v:List Int),Bs v→Bs (match r94_0 a l i v with | .k0 w .. =>w)
  |[],i,v,h=>h
  |x::l,i,v,h=>by
    simp only[r94_0]
    exact Bs_list a l _ _ (h.append (Bs_put _))
theorem Bs_num (a:List Int):Bs (m94 a):=by
  unfold m94
  exact Bs_list a a 0 _ (Bs_put _)
theorem Bs_p0 (a:K_iLiiLiEELiLiEE) (c:Bool):∀(l:List K_iiLiE) (i:Int) (v:List Int),Bs v→Bs (match r83_0 a c l i v with | .k0 w .. =>w)
  |[],i,v,h=>h
  |x::l,i,v,h=>by
    simp only[r83_0]
    have h1:=(h.append (Bs_big x.f0)).append (Bs_put x.f1)
    split
    · exact Bs_p0 a c l _ _ (h1.append (Bs_num _))
    · exact Bs_p0 a c l _ _ (h1.append (fun z hz=>by simp only[List.mem_cons,List.not_mem_nil,or_false] at hz; subst hz; omega))
theorem Bs_p1 (a:K_iLiiLiEELiLiEE):∀(l:List K_iLiE) (i:Int) (v:List Int),Bs v→Bs (match r83_1 a l i v with | .k0 w .. =>w)
  |[],i,v,h=>h
  |x::l,i,v,h=>by
    simp only[r83_1]
    exact Bs_p1 a l _ _ ((h.append (Bs_big x.f0)).append (Bs_num _))
theorem Bs_pack (t:K_iLiiLiEELiLiEE) (c:Bool):Bs (m83 t c):=by
  have h:=Bs_p0 t c t.f1 0 _ ((Bs_put t.f0).append (Bs_put ((List.length (List.map b_iiLiE t.f1)):Int)))
  unfold m83
  cases g:r83_0 t c t.f1 0 ((m92 t.f0)++(m92 ((List.length (List.map b_iiLiE t.f1)):Int))) with
  |k0 w j b=>
    rw[g] at h
    exact Bs_p1 t t.f2 0 _ (h.append (Bs_put _))
theorem bad_loop (a b:List Int):∀(l:List Int) (i j:Int),0≤i→(decide ((match r1006500_0 a l i with | .k0 .. =>(-1:Int) | .k1 w=>w:Int)≥0))= !(match r77_0 b 0 9999 l j with | .k0 .. =>true | .k1=>false)
  |[],i,j,_=>rfl
  |x::l,i,j,h=>by
    simp only[r1006500_0,r77_0,in_eq]
    by_cases g:(!(m27 x 0 9999))=true
    · rw[if_pos g,if_pos g]; simpa using h
    · rw[if_neg g,if_neg g]; exact bad_loop a b l _ _ (by omega)
theorem bad_eq (l:List Int):(decide (m1006500 l≥0))= !(m77 l 0 9999):=by
  unfold m1006500 m77
  exact bad_loop l l l 0 0 (by omega)
theorem op_eq (x:Int):m50 x= !(m90 x):=by
  unfold m50 m90
  rw[in_eq,in_eq]
  cases m27 x 1 9<;>simp
theorem lock_loop (a b:List Int):∀(l:List Int) (i j:Int),0≤i→(if(decide ((match r1006501_0 a l i with | .k0 .. =>(-1:Int) | .k1 w=>w:Int)≥0))=true then(1:Int) else 0)=(match r79_0 b l j with | .k0 .. =>0 | .k1=>1)
  |[],i,j,_=>rfl
  |x::l,i,j,h=>by
    simp only[r1006501_0,r79_0,op_eq]
    by_cases g:(!(m90 x))=true
    · rw[if_pos g,if_pos g]; simp only[]; rw[if_pos (by simpa using h)]
    · rw[if_neg g,if_neg g]; exact lock_loop a b l _ _ (by omega)
theorem lock_eq (l:List Int):m32 l=m79 l:=by
  unfold m32 m79
  by_cases h:(decide (((List.length (List.map b_i l)):Int) > 12))=true
  · rw[if_pos h,if_pos h]
  · rw[if_neg h,if_neg h]
    unfold m1006501
    exact lock_loop l l l 0 0 (by omega)
theorem clo_iff (y:K_iiLiE) (a b:Int) (c:List Int):m1004900 y a b c=true↔(y.f0==a)=true∧(y.f1==b)=true:=by
  unfold m1004900
  simp only[beq_iff_eq]
  by_cases h:a=y.f0
  · rw[if_pos h]; simp only[beq_iff_eq]; exact⟨fun q=>⟨h.symm,q.symm⟩,fun q=>q.2.symm⟩
  · rw[if_neg h]; exact⟨fun q=>(by cases q),fun q=>absurd q.1.symm h⟩
theorem tk_loop (a A:List K_iiLiE) (x:K_iiLiE) (i:Nat) (hi:i < a.length) (hx:List.getD a i (K_iiLiE.mk 0 0 [])=x):∀(n k:Nat),n+k=i→(if(decide ((match r1006600_0 A x.f0 x.f1 x.f2 ((a.take i).drop k) (k:Int) with | .k0 .. =>(-1:Int) | .k1 w=>w:Int)≥0))=true then(6:Int) else 0)=(match r59_0 a (i:Int) n (k:Int) with | .k0 .. =>0 | .k1=>6)
  |0,k,h=>by
    rw[List.drop_eq_nil_of_le (by simp; omega)]
    rfl
  |n+1,k,h=>by
    have hk:k <(a.take i).length:=by simp; omega
    rw[List.drop_eq_getElem_cons hk]
    have e:List.getD a k (K_iiLiE.mk 0 0 [])=(a.take i)[k]:=by
      rw[List.getD,List.getElem?_eq_getElem (show k < a.length by omega),Option.getD_some,List.getElem_take]
    have ih:=tk_loop a A x i hi hx n (k+1) (by omega)
    rw[r1006600_0,r59_0,Int.toNat_natCast,Int.toNat_natCast,hx,e]
    generalize (a.take i)[k]=y at*
    have cl:=clo_iff y x.f0 x.f1 x.f2
    by_cases g:m1004900 y x.f0 x.f1 x.f2=true
    · obtain⟨g0,g1⟩:=cl.1 g
      rw[if_pos g,if_pos g0,if_pos g1]
      show (if decide ((k:Int)≥0)=true then(6:Int) else 0)=6
      rw[if_pos (by simp)]
    · rw[if_neg g]
      by_cases g0:(y.f0==x.f0)=true
      · rw[if_pos g0,if_neg (fun g1=>g (cl.2 ⟨g0,g1⟩))]; exact ih
      · rw[if_neg g0]; exact ih
theorem in_fault (a:List K_iiLiE) (x:K_iiLiE) (i:Nat) (hi:i < a.length) (hx:List.getD a i (K_iiLiE.mk 0 0 [])=x):m30 x (List.take i a)=m59 a (i:Int):=by
  unfold m30 m59
  simp only[Int.toNat_natCast,hx,in_eq,bad_eq]
  by_cases h0:(!(m27 x.f0 0 2147483646))=true
  · rw[if_pos h0,if_pos h0]
  rw[if_neg h0,if_neg h0]
  by_cases h1:(!(m27 x.f1 0 3))=true
  · rw[if_pos h1,if_pos h1]
  rw[if_neg h1,if_neg h1]
  by_cases h2:(decide (((List.length (List.map b_i x.f2)):Int) > 8))=true
  · rw[if_pos h2,if_pos h2]
  rw[if_neg h2,if_neg h2]
  by_cases h3:(!(m77 x.f2 0 9999))=true
  · rw[if_pos h3,if_pos h3]
  rw[if_neg h3,if_neg h3]
  unfold m1006600
  exact tk_loop a (List.take i a) x i hi hx i 0 (by omega)
theorem ins_loop (t:K_iLiiLiEELiLiEE) (A:Int):∀(l p:List K_iiLiE),p++l=t.f1→(match r21_0 t l (p.length:Int) with | .k0 .. =>A | .k1 w=>w)=(match r41_0 t l (p.length:Int) with | .k0 .. =>A | .k1 w=>w)
  |[],p,_=>rfl
  |x::l,p,h=>by
    have ih:=ins_loop t A l (p++ [x]) (by rw[List.append_assoc]; exact h)
    rw[show ((p++ [x]).length:Int)=(p.length:Int)+1 from by simp] at ih
    have hl:p.length < t.f1.length:=by rw[← h]; simp
    have hx:List.getD t.f1 p.length (K_iiLiE.mk 0 0 [])=x:=by rw[← h]; simp
    simp only[r21_0,r41_0,Int.toNat_natCast]
    rw[in_fault t.f1 x p.length hl hx]
    by_cases g:(m59 t.f1 (p.length:Int) !=0)=true
    · rw[if_pos g,if_pos g]
    · rw[if_neg g,if_neg g]; exact ih
theorem outs_loop (F:Int→Int) (t:K_iLiiLiEELiLiEE) (a b:List K_iLiE):∀(l:List K_iLiE) (i j k v:Int),(match r21_1 t l i with | .k0 .. =>F (match r33_0 a l j v with | .k0 w .. =>w) | .k1=>3 | .k2 w=>w)=(match r60_0 b l k v with | .k0 w .. =>F w | .k1=>3 | .k2 w=>w)
  |[],i,j,k,v=>rfl
  |x::l,i,j,k,v=>by
    simp only[r21_1,r60_0,r33_0,in_eq,lock_eq]
    by_cases h0:(!(m27 x.f0 0 1000000))=true
    · rw[if_pos h0,if_pos h0]
    rw[if_neg h0,if_neg h0]
    by_cases h1:(m79 x.f1 !=0)=true
    · rw[if_pos h1,if_pos h1]
    rw[if_neg h1,if_neg h1]
    exact outs_loop F t a b l _ _ _ _
theorem tx_eq (t:K_iLiiLiEELiLiEE):m21 t=m41 t:=by
  unfold m21 m41
  simp only[in_eq]
  by_cases h0:(!(m27 t.f0 0 65535))=true
  · rw[if_pos h0,if_pos h0]
  rw[if_neg h0,if_neg h0]
  by_cases h1:(decide (((List.length (List.map b_iiLiE t.f1)):Int) > 4))=true
  · rw[if_pos h1,if_pos h1]
  rw[if_neg h1,if_neg h1]
  by_cases h2:(!(m27 ((List.length (List.map b_iLiE t.f2)):Int) 1 4))=true
  · rw[if_pos h2]
    by_cases h3:(decide (((List.length (List.map b_iLiE t.f2)):Int) < 1))=true
    · rw[if_pos h3]
    rw[if_neg h3,if_pos]
    cases q:m27 ((List.length (List.map b_iLiE t.f2)):Int) 1 4 with
    |true=>rw[q] at h2; cases h2
    |false=>
      have q2:=mt (l1In_iff _ _ _).2 (by rw[q]; decide)
      simp only[decide_eq_true_eq] at h3⊢
      omega
  · have q:m27 ((List.length (List.map b_iLiE t.f2)):Int) 1 4=true:=by simpa using h2
    have q2:=(l1In_iff _ _ _).1 q
    have c1:¬(decide (((List.length (List.map b_iLiE t.f2)):Int) < 1))=true:=by simp only[decide_eq_true_eq]; omega
    have c2:¬(decide (((List.length (List.map b_iLiE t.f2)):Int) > 4))=true:=by simp only[decide_eq_true_eq]; omega
    rw[if_neg h2,if_neg c1,if_neg c2]
    unfold m60 m33
    refine(ins_loop t _ t.f1 [] rfl).trans ?_
    have o:=outs_loop (fun w=>if(!(m27 w 0 1000000))=true then 7 else 0) t t.f2 t.f2 t.f2 0 0 0 0
    show (match r41_0 t t.f1 0 with | .k0 .. =>_ | .k1 w=>w)=(match r41_0 t t.f1 0 with | .k0 .. =>_ | .k1 w=>w)
    cases r41_0 t t.f1 0 with
    |k0=>exact o
    |k1 w=>rfl

theorem sums_loop (a b:K_iiiiLiLiiLiEELiLiEEE):∀(l:List K_iLiiLiEELiLiEE) (i j:Int) (v:List Int),(∀x∈l,SmT x)→(match r24_0 a l i v with | .k0 w .. =>w)=(match r44_0 b l j v with | .k0 w .. =>w)
  |[],i,j,v,_=>rfl
  |x::l,i,j,v,h=>by
    simp only[r24_0,r44_0]
    rw[txsum_eq x (h x (List.mem_cons_self ..))]
    exact sums_loop a b l _ _ _ (fun u hu=>h u (List.mem_cons_of_mem _ hu))
theorem sums_eq (b:K_iiiiLiLiiLiEELiLiEEE) (h:∀x∈b.f4,SmT x):m24 b=m44 b:=by
  unfold m24 m44
  exact sums_loop b b b.f4 0 0 [] h
theorem sums_in (b:K_iiiiLiLiiLiEELiLiEEE):∀(l:List K_iLiiLiEELiLiEE) (j:Int) (v:List Int),(∀x∈v,InS x)→∀x∈(match r44_0 b l j v with | .k0 w .. =>w),InS x
  |[],j,v,h=>h
  |x::l,j,v,h=>by
    simp only[r44_0]
    refine sums_in b l _ _ fun y hy=>?_
    rcases List.mem_append.1 hy with hy | hy
    · exact h y hy
    · simp only[List.mem_cons,List.not_mem_nil,or_false] at hy
      subst hy; exact sum_ok (Bs_pack _ _)
theorem sums_ok (b:K_iiiiLiLiiLiEELiLiEEE):∀x∈m44 b,InS x:=by
  unfold m44
  exact sums_in b b.f4 0 [] (fun x hx=>by cases hx)
theorem txs_loop (A:Int) (a b:K_iiiiLiLiiLiEELiLiEEE):∀(l:List K_iLiiLiEELiLiEE) (i j:Int),(match r13_0 a l i with | .k0 .. =>A | .k1 w=>w)=(match r28_0 b l j with | .k0 .. =>A | .k1 w=>w)
  |[],i,j=>rfl
  |x::l,i,j=>by
    simp only[r13_0,r28_0,tx_eq]
    by_cases g:(m41 x !=0)=true
    · rw[if_pos g,if_pos g]
    · rw[if_neg g,if_neg g]; exact txs_loop A a b l _ _
theorem base_loop (A B:Int) (a b:K_iiiiLiLiiLiEELiLiEEE):∀(l:List K_iLiiLiEELiLiEE) (i:Int),(match r13_1 a l i with | .k0 .. =>A | .k1=>B)=(match r42_0 b l i with | .k0 .. =>A | .k1=>B)
  |[],i=>rfl
  |x::l,i=>by
    simp only[r13_1,r42_0]
    by_cases g:(!((((List.length (List.map b_iiLiE x.f1)):Int)==0)==(i==0)))=true
    · rw[if_pos g,if_pos g]
    · rw[if_neg g,if_neg g]; exact base_loop A B a b l _
theorem base_eq (A B:Int) (b:K_iiiiLiLiiLiEELiLiEEE):(match r13_1 b b.f4 0 with | .k0 .. =>A | .k1=>B)=(if(!(m42 b))=true then B else A):=by
  refine(base_loop A B b b b.f4 0).trans ?_
  unfold m42
  cases r42_0 b b.f4 0<;>rfl
theorem bits_eq (n:Int):m20 n=m40 n:=by
  unfold m20 m40
  rw[in_eq]
theorem block_eq (b:K_iiiiLiLiiLiEELiLiEEE):m13 b=m28 b:=by
  unfold m13 m28
  simp only[in_eq,bits_eq]
  by_cases h0:(!(m27 b.f0 0 2147483646))=true
  · rw[if_pos h0,if_pos h0]
  rw[if_neg h0,if_neg h0]
  by_cases h1:(!(m27 b.f1 1 99999))=true
  · rw[if_pos h1,if_pos h1]
  rw[if_neg h1,if_neg h1]
  by_cases h2:(!(m40 b.f2))=true
  · rw[if_pos h2,if_pos h2]
  rw[if_neg h2,if_neg h2]
  by_cases h3:(!(m27 b.f3 0 65535))=true
  · rw[if_pos h3,if_pos h3]
  rw[if_neg h3,if_neg h3]
  by_cases h4:(!(m27 ((List.length (List.map b_iLiiLiEELiLiEE b.f4)):Int) 1 4))=true
  · rw[if_pos h4]
    by_cases h5:(decide (((List.length (List.map b_iLiiLiEELiLiEE b.f4)):Int) < 1))=true
    · rw[if_pos h5]
    rw[if_neg h5,if_pos]
    cases q:m27 ((List.length (List.map b_iLiiLiEELiLiEE b.f4)):Int) 1 4 with
    |true=>rw[q] at h4; cases h4
    |false=>
      have q2:=mt (l1In_iff _ _ _).2 (by rw[q]; decide)
      simp only[decide_eq_true_eq] at h5⊢
      omega
  have q:m27 ((List.length (List.map b_iLiiLiEELiLiEE b.f4)):Int) 1 4=true:=by simpa using h4
  have q2:=(l1In_iff _ _ _).1 q
  have c1:¬(decide (((List.length (List.map b_iLiiLiEELiLiEE b.f4)):Int) < 1))=true:=by simp only[decide_eq_true_eq]; omega
  have c2:¬(decide (((List.length (List.map b_iLiiLiEELiLiEE b.f4)):Int) > 4))=true:=by simp only[decide_eq_true_eq]; omega
  rw[if_neg h4,if_neg c1,if_neg c2]
  rw[List.length_map] at q2
  have tl:=fun A=>txs_loop A b b b.f4 0 0
  refine(tl _).trans ?_
  cases g:r28_0 b b.f4 0 with
  |k1 w=>rfl
  |k0 j c=>
    simp only[]
    have hs:∀x∈b.f4,SmT x:=fun x hx=>ft41 (lb28 g x hx)
    have hn:=ln44 b
    rw[sums_eq b hs,twin_eq (by omega) (by omega) (sums_ok b)]
    exact base_eq _ 1 b

theorem jobs_loop (a b:List K_iiiiiLiLiiLiEELiLiEEE) (hab:a=b):∀(l:List K_iiiiiLiLiiLiEELiLiEEE) (i:Int),(match r7_0 a l i with | .k0 .. =>(0:Int) | .k1=>3 | .k2 w=>w | .k3=>1)=(match r10_0 b l i with | .k0 .. =>0 | .k1 w=>w | .k2=>1)
  |[],i=>rfl
  |x::l,i=>by
    subst hab
    have ih:=jobs_loop a a rfl l (i+1)
    simp only[r7_0,r10_0,in_eq,block_eq]
    by_cases h0:(!(m27 x.f0 0 9999))=true
    · have e:m16 x=3:=by unfold m16; rw[if_pos h0]
      rw[if_pos h0,e]; rfl
    rw[if_neg h0]
    by_cases h1:(m28 (K_iiiiLiLiiLiEELiLiEEE.mk x.f1 x.f2 x.f3 x.f4 x.f5) !=0)=true
    · have e:m16 x=m28 (K_iiiiLiLiiLiEELiLiEEE.mk x.f1 x.f2 x.f3 x.f4 x.f5):=by unfold m16; rw[if_neg h0,if_pos h1]
      rw[if_pos h1,e,if_pos h1]
    rw[if_neg h1]
    by_cases h2:(((List.length (List.map b_iLiE ((List.getD x.f5 0 (K_iLiiLiEELiLiEE.mk 0 [] [])).f2))):Int) !=2)=true
    · have e:m16 x=1:=by unfold m16; rw[if_neg h0,if_neg h1,if_pos h2]
      rw[if_pos h2,e]; rfl
    have e:m16 x=0:=by unfold m16; rw[if_neg h0,if_neg h1,if_neg h2]
    rw[if_neg h2,e,if_neg (show¬((0:Int) !=0)=true by decide)]
    by_cases h3:(decide (i > 0))=true
    · rw[if_pos h3,if_pos h3]
      by_cases h4:(decide (x.f0≤((List.getD a (Int.toNat (IntKind.wrap .i64 (i - 1))) (K_iiiiiLiLiiLiEELiLiEEE.mk 0 0 0 0 0 [])).f0)))=true
      · rw[if_pos h4,if_pos (by simp only[decide_eq_true_eq] at h4⊢; omega)]
      · rw[if_neg h4,if_neg (by simp only[decide_eq_true_eq] at h4⊢; omega)]; exact ih
    · rw[if_neg h3,if_neg h3]; exact ih
theorem jobs_eq (a:List K_iiiiiLiLiiLiEELiLiEEE):m7 a=m10 a:=by
  unfold m7 m10
  by_cases h:(decide (((List.length (List.map b_iiiiiLiLiiLiEELiLiEEE a)):Int) > 4))=true
  · rw[if_pos h,if_pos h]
  · rw[if_neg h,if_neg h]; exact jobs_loop a a rfl a 0
theorem pure (a0:(List K_iiiiiLiLiiLiEELiLiEEE)) (w0:wf_LiiiiiLiLiiLiEELiLiEEEE a0):m3 a0=true:=by
  unfold m3
  simp only[jobs_eq,eqd8]
  (repeat' split)<;>(first | rfl |(simp_all; done) |(simp only[decide_eq_true_eq] at*; omega))

end Go.Proofs.Ytjgebnhpklkjcaa.JobsFault
