/- The two primes of the program, by certificates: printed by pratt.py. -/
import Derived.Test.YtalnkpdahpjmmaaDoorNumT
set_option linter.unusedVariables false
set_option linter.unusedSimpArgs false
namespace Go.Vk.Num
set_option maxRecDepth 4000
theorem prime_2 : IsP 2 := small_prime 2 (by decide) (by decide)
theorem prime_3 : IsP 3 := small_prime 3 (by decide) (by decide)
theorem prime_17 : IsP 17 := small_prime 17 (by decide) (by decide)
theorem prime_7 : IsP 7 := small_prime 7 (by decide) (by decide)
theorem gen_239 : Gen 239 7 := cert_gen (l := [2, 7, 17]) (by decide +kernel) (by decide +kernel) (by simp only [List.forall_mem_cons]; exact ⟨prime_2, prime_7, prime_17, by simp⟩)
theorem prime_239 : IsP 239 := gen_239.prime
theorem gen_479 : Gen 479 13 := cert_gen (l := [2, 239]) (by decide +kernel) (by decide +kernel) (by simp only [List.forall_mem_cons]; exact ⟨prime_2, prime_239, by simp⟩)
theorem prime_479 : IsP 479 := gen_479.prime
theorem gen_32573 : Gen 32573 2 := cert_gen (l := [2, 2, 17, 479]) (by decide +kernel) (by decide +kernel) (by simp only [List.forall_mem_cons]; exact ⟨prime_2, prime_2, prime_17, prime_479, by simp⟩)
theorem prime_32573 : IsP 32573 := gen_32573.prime
theorem gen_65147 : Gen 65147 2 := cert_gen (l := [2, 32573]) (by decide +kernel) (by decide +kernel) (by simp only [List.forall_mem_cons]; exact ⟨prime_2, prime_32573, by simp⟩)
theorem prime_65147 : IsP 65147 := gen_65147.prime
theorem prime_11 : IsP 11 := small_prime 11 (by decide) (by decide)
theorem gen_353 : Gen 353 3 := cert_gen (l := [2, 2, 2, 2, 2, 11]) (by decide +kernel) (by decide +kernel) (by simp only [List.forall_mem_cons]; exact ⟨prime_2, prime_2, prime_2, prime_2, prime_2, prime_11, by simp⟩)
theorem prime_353 : IsP 353 := gen_353.prime
theorem prime_59 : IsP 59 := small_prime 59 (by decide) (by decide)
theorem gen_487 : Gen 487 3 := cert_gen (l := [2, 3, 3, 3, 3, 3]) (by decide +kernel) (by decide +kernel) (by simp only [List.forall_mem_cons]; exact ⟨prime_2, prime_3, prime_3, prime_3, prime_3, prime_3, by simp⟩)
theorem prime_487 : IsP 487 := gen_487.prime
theorem gen_57467 : Gen 57467 2 := cert_gen (l := [2, 59, 487]) (by decide +kernel) (by decide +kernel) (by simp only [List.forall_mem_cons]; exact ⟨prime_2, prime_59, prime_487, by simp⟩)
theorem prime_57467 : IsP 57467 := gen_57467.prime
theorem prime_5 : IsP 5 := small_prime 5 (by decide) (by decide)
theorem prime_13 : IsP 13 := small_prime 13 (by decide) (by decide)
theorem gen_131 : Gen 131 2 := cert_gen (l := [2, 5, 13]) (by decide +kernel) (by decide +kernel) (by simp only [List.forall_mem_cons]; exact ⟨prime_2, prime_5, prime_13, by simp⟩)
theorem prime_131 : IsP 131 := gen_131.prime
theorem gen_132049 : Gen 132049 26 := cert_gen (l := [2, 2, 2, 2, 3, 3, 7, 131]) (by decide +kernel) (by decide +kernel) (by simp only [List.forall_mem_cons]; exact ⟨prime_2, prime_2, prime_2, prime_2, prime_3, prime_3, prime_7, prime_131, by simp⟩)
theorem prime_132049 : IsP 132049 := gen_132049.prime
theorem prime_43 : IsP 43 := small_prime 43 (by decide) (by decide)
theorem prime_23 : IsP 23 := small_prime 23 (by decide) (by decide)
theorem gen_3727 : Gen 3727 3 := cert_gen (l := [2, 3, 3, 3, 3, 23]) (by decide +kernel) (by decide +kernel) (by simp only [List.forall_mem_cons]; exact ⟨prime_2, prime_3, prime_3, prime_3, prime_3, prime_23, by simp⟩)
theorem prime_3727 : IsP 3727 := gen_3727.prime
theorem gen_1923133 : Gen 1923133 2 := cert_gen (l := [2, 2, 3, 43, 3727]) (by decide +kernel) (by decide +kernel) (by simp only [List.forall_mem_cons]; exact ⟨prime_2, prime_2, prime_3, prime_43, prime_3727, by simp⟩)
theorem prime_1923133 : IsP 1923133 := gen_1923133.prime
theorem prime_31 : IsP 31 := small_prime 31 (by decide) (by decide)
theorem prime_53 : IsP 53 := small_prime 53 (by decide) (by decide)
theorem gen_107 : Gen 107 2 := cert_gen (l := [2, 53]) (by decide +kernel) (by decide +kernel) (by simp only [List.forall_mem_cons]; exact ⟨prime_2, prime_53, by simp⟩)
theorem prime_107 : IsP 107 := gen_107.prime
theorem prime_37 : IsP 37 := small_prime 37 (by decide) (by decide)
theorem gen_223 : Gen 223 3 := cert_gen (l := [2, 3, 37]) (by decide +kernel) (by decide +kernel) (by simp only [List.forall_mem_cons]; exact ⟨prime_2, prime_3, prime_37, by simp⟩)
theorem prime_223 : IsP 223 := gen_223.prime
theorem gen_173 : Gen 173 2 := cert_gen (l := [2, 2, 43]) (by decide +kernel) (by decide +kernel) (by simp only [List.forall_mem_cons]; exact ⟨prime_2, prime_2, prime_43, by simp⟩)
theorem prime_173 : IsP 173 := gen_173.prime
theorem gen_4153 : Gen 4153 5 := cert_gen (l := [2, 2, 2, 3, 173]) (by decide +kernel) (by decide +kernel) (by simp only [List.forall_mem_cons]; exact ⟨prime_2, prime_2, prime_2, prime_3, prime_173, by simp⟩)
theorem prime_4153 : IsP 4153 := gen_4153.prime
theorem prime_41 : IsP 41 := small_prime 41 (by decide) (by decide)
theorem gen_1723 : Gen 1723 3 := cert_gen (l := [2, 3, 7, 41]) (by decide +kernel) (by decide +kernel) (by simp only [List.forall_mem_cons]; exact ⟨prime_2, prime_3, prime_7, prime_41, by simp⟩)
theorem prime_1723 : IsP 1723 := gen_1723.prime
theorem gen_430751 : Gen 430751 17 := cert_gen (l := [2, 5, 5, 5, 1723]) (by decide +kernel) (by decide +kernel) (by simp only [List.forall_mem_cons]; exact ⟨prime_2, prime_5, prime_5, prime_5, prime_1723, by simp⟩)
theorem prime_430751 : IsP 430751 := gen_430751.prime
theorem gen_31757755568855353 : Gen 31757755568855353 10 := cert_gen (l := [2, 2, 2, 3, 31, 107, 223, 4153, 430751]) (by decide +kernel) (by decide +kernel) (by simp only [List.forall_mem_cons]; exact ⟨prime_2, prime_2, prime_2, prime_3, prime_31, prime_107, prime_223, prime_4153, prime_430751, by simp⟩)
theorem prime_31757755568855353 : IsP 31757755568855353 := gen_31757755568855353.prime
theorem prime_19 : IsP 19 := small_prime 19 (by decide) (by decide)
theorem prime_83 : IsP 83 := small_prime 83 (by decide) (by decide)
theorem gen_9463 : Gen 9463 3 := cert_gen (l := [2, 3, 19, 83]) (by decide +kernel) (by decide +kernel) (by simp only [List.forall_mem_cons]; exact ⟨prime_2, prime_3, prime_19, prime_83, by simp⟩)
theorem prime_9463 : IsP 9463 := gen_9463.prime
theorem gen_37853 : Gen 37853 2 := cert_gen (l := [2, 2, 9463]) (by decide +kernel) (by decide +kernel) (by simp only [List.forall_mem_cons]; exact ⟨prime_2, prime_2, prime_9463, by simp⟩)
theorem prime_37853 : IsP 37853 := gen_37853.prime
theorem gen_75707 : Gen 75707 2 := cert_gen (l := [2, 37853]) (by decide +kernel) (by decide +kernel) (by simp only [List.forall_mem_cons]; exact ⟨prime_2, prime_37853, by simp⟩)
theorem prime_75707 : IsP 75707 := gen_75707.prime
theorem prime_29 : IsP 29 := small_prime 29 (by decide) (by decide)
theorem gen_2437 : Gen 2437 2 := cert_gen (l := [2, 2, 3, 7, 29]) (by decide +kernel) (by decide +kernel) (by simp only [List.forall_mem_cons]; exact ⟨prime_2, prime_2, prime_3, prime_7, prime_29, by simp⟩)
theorem prime_2437 : IsP 2437 := gen_2437.prime
theorem prime_97 : IsP 97 := small_prime 97 (by decide) (by decide)
theorem gen_419 : Gen 419 2 := cert_gen (l := [2, 11, 19]) (by decide +kernel) (by decide +kernel) (by simp only [List.forall_mem_cons]; exact ⟨prime_2, prime_11, prime_19, by simp⟩)
theorem prime_419 : IsP 419 := gen_419.prime
theorem gen_569003 : Gen 569003 2 := cert_gen (l := [2, 7, 97, 419]) (by decide +kernel) (by decide +kernel) (by simp only [List.forall_mem_cons]; exact ⟨prime_2, prime_7, prime_97, prime_419, by simp⟩)
theorem prime_569003 : IsP 569003 := gen_569003.prime
theorem gen_2773320623 : Gen 2773320623 5 := cert_gen (l := [2, 2437, 569003]) (by decide +kernel) (by decide +kernel) (by simp only [List.forall_mem_cons]; exact ⟨prime_2, prime_2437, prime_569003, by simp⟩)
theorem prime_2773320623 : IsP 2773320623 := gen_2773320623.prime
theorem gen_72106336199 : Gen 72106336199 7 := cert_gen (l := [2, 13, 2773320623]) (by decide +kernel) (by decide +kernel) (by simp only [List.forall_mem_cons]; exact ⟨prime_2, prime_13, prime_2773320623, by simp⟩)
theorem prime_72106336199 : IsP 72106336199 := gen_72106336199.prime
theorem prime_47 : IsP 47 := small_prime 47 (by decide) (by decide)
theorem gen_127 : Gen 127 3 := cert_gen (l := [2, 3, 3, 7]) (by decide +kernel) (by decide +kernel) (by simp only [List.forall_mem_cons]; exact ⟨prime_2, prime_3, prime_3, prime_7, by simp⟩)
theorem prime_127 : IsP 127 := gen_127.prime
theorem gen_103 : Gen 103 5 := cert_gen (l := [2, 3, 17]) (by decide +kernel) (by decide +kernel) (by simp only [List.forall_mem_cons]; exact ⟨prime_2, prime_3, prime_17, by simp⟩)
theorem prime_103 : IsP 103 := gen_103.prime
theorem gen_991 : Gen 991 6 := cert_gen (l := [2, 3, 3, 5, 11]) (by decide +kernel) (by decide +kernel) (by simp only [List.forall_mem_cons]; exact ⟨prime_2, prime_3, prime_3, prime_5, prime_11, by simp⟩)
theorem prime_991 : IsP 991 := gen_991.prime
theorem gen_8574133 : Gen 8574133 2 := cert_gen (l := [2, 2, 3, 7, 103, 991]) (by decide +kernel) (by decide +kernel) (by simp only [List.forall_mem_cons]; exact ⟨prime_2, prime_2, prime_3, prime_7, prime_103, prime_991, by simp⟩)
theorem prime_8574133 : IsP 8574133 := gen_8574133.prime
theorem gen_1919519569386763 : Gen 1919519569386763 2 := cert_gen (l := [2, 3, 7, 19, 47, 47, 127, 8574133]) (by decide +kernel) (by decide +kernel) (by simp only [List.forall_mem_cons]; exact ⟨prime_2, prime_3, prime_7, prime_19, prime_47, prime_47, prime_127, prime_8574133, by simp⟩)
theorem prime_1919519569386763 : IsP 1919519569386763 := gen_1919519569386763.prime
theorem gen_75445702479781427272750846543864801 : Gen 75445702479781427272750846543864801 7 := cert_gen (l := [2, 2, 2, 2, 2, 3, 3, 5, 5, 75707, 72106336199, 1919519569386763]) (by decide +kernel) (by decide +kernel) (by simp only [List.forall_mem_cons]; exact ⟨prime_2, prime_2, prime_2, prime_2, prime_2, prime_3, prime_3, prime_5, prime_5, prime_75707, prime_72106336199, prime_1919519569386763, by simp⟩)
theorem prime_75445702479781427272750846543864801 : IsP 75445702479781427272750846543864801 := gen_75445702479781427272750846543864801.prime
theorem gen_74058212732561358302231226437062788676166966415465897661863160754340907 : Gen 74058212732561358302231226437062788676166966415465897661863160754340907 2 := cert_gen (l := [2, 3, 353, 57467, 132049, 1923133, 31757755568855353, 75445702479781427272750846543864801]) (by decide +kernel) (by decide +kernel) (by simp only [List.forall_mem_cons]; exact ⟨prime_2, prime_3, prime_353, prime_57467, prime_132049, prime_1923133, prime_31757755568855353, prime_75445702479781427272750846543864801, by simp⟩)
theorem prime_74058212732561358302231226437062788676166966415465897661863160754340907 : IsP 74058212732561358302231226437062788676166966415465897661863160754340907 := gen_74058212732561358302231226437062788676166966415465897661863160754340907.prime
theorem gen_57896044618658097711785492504343953926634992332820282019728792003956564819949 : Gen 57896044618658097711785492504343953926634992332820282019728792003956564819949 2 := cert_gen (l := [2, 2, 3, 65147, 74058212732561358302231226437062788676166966415465897661863160754340907]) (by decide +kernel) (by decide +kernel) (by simp only [List.forall_mem_cons]; exact ⟨prime_2, prime_2, prime_3, prime_65147, prime_74058212732561358302231226437062788676166966415465897661863160754340907, by simp⟩)
theorem prime_57896044618658097711785492504343953926634992332820282019728792003956564819949 : IsP 57896044618658097711785492504343953926634992332820282019728792003956564819949 := gen_57896044618658097711785492504343953926634992332820282019728792003956564819949.prime
theorem gen_34123 : Gen 34123 2 := cert_gen (l := [2, 3, 11, 11, 47]) (by decide +kernel) (by decide +kernel) (by simp only [List.forall_mem_cons]; exact ⟨prime_2, prime_3, prime_11, prime_11, prime_47, by simp⟩)
theorem prime_34123 : IsP 34123 := gen_34123.prime
theorem gen_409477 : Gen 409477 2 := cert_gen (l := [2, 2, 3, 34123]) (by decide +kernel) (by decide +kernel) (by simp only [List.forall_mem_cons]; exact ⟨prime_2, prime_2, prime_3, prime_34123, by simp⟩)
theorem prime_409477 : IsP 409477 := gen_409477.prime
theorem gen_14741173 : Gen 14741173 2 := cert_gen (l := [2, 2, 3, 3, 409477]) (by decide +kernel) (by decide +kernel) (by simp only [List.forall_mem_cons]; exact ⟨prime_2, prime_2, prime_3, prime_3, prime_409477, by simp⟩)
theorem prime_14741173 : IsP 14741173 := gen_14741173.prime
theorem gen_58964693 : Gen 58964693 2 := cert_gen (l := [2, 2, 14741173]) (by decide +kernel) (by decide +kernel) (by simp only [List.forall_mem_cons]; exact ⟨prime_2, prime_2, prime_14741173, by simp⟩)
theorem prime_58964693 : IsP 58964693 := gen_58964693.prime
theorem gen_30703 : Gen 30703 3 := cert_gen (l := [2, 3, 7, 17, 43]) (by decide +kernel) (by decide +kernel) (by simp only [List.forall_mem_cons]; exact ⟨prime_2, prime_3, prime_7, prime_17, prime_43, by simp⟩)
theorem prime_30703 : IsP 30703 := gen_30703.prime
theorem prime_79 : IsP 79 := small_prime 79 (by decide) (by decide)
theorem gen_41081 : Gen 41081 3 := cert_gen (l := [2, 2, 2, 5, 13, 79]) (by decide +kernel) (by decide +kernel) (by simp only [List.forall_mem_cons]; exact ⟨prime_2, prime_2, prime_2, prime_5, prime_13, prime_79, by simp⟩)
theorem prime_41081 : IsP 41081 := gen_41081.prime
theorem gen_82163 : Gen 82163 2 := cert_gen (l := [2, 41081]) (by decide +kernel) (by decide +kernel) (by simp only [List.forall_mem_cons]; exact ⟨prime_2, prime_41081, by simp⟩)
theorem prime_82163 : IsP 82163 := gen_82163.prime
theorem prime_67 : IsP 67 := small_prime 67 (by decide) (by decide)
theorem gen_22111 : Gen 22111 6 := cert_gen (l := [2, 3, 5, 11, 67]) (by decide +kernel) (by decide +kernel) (by simp only [List.forall_mem_cons]; exact ⟨prime_2, prime_3, prime_5, prime_11, prime_67, by simp⟩)
theorem prime_22111 : IsP 22111 := gen_22111.prime
theorem gen_132667 : Gen 132667 5 := cert_gen (l := [2, 3, 22111]) (by decide +kernel) (by decide +kernel) (by simp only [List.forall_mem_cons]; exact ⟨prime_2, prime_3, prime_22111, by simp⟩)
theorem prime_132667 : IsP 132667 := gen_132667.prime
theorem gen_17231 : Gen 17231 13 := cert_gen (l := [2, 5, 1723]) (by decide +kernel) (by decide +kernel) (by simp only [List.forall_mem_cons]; exact ⟨prime_2, prime_5, prime_1723, by simp⟩)
theorem prime_17231 : IsP 17231 := gen_17231.prime
theorem gen_137849 : Gen 137849 3 := cert_gen (l := [2, 2, 2, 17231]) (by decide +kernel) (by decide +kernel) (by simp only [List.forall_mem_cons]; exact ⟨prime_2, prime_2, prime_2, prime_17231, by simp⟩)
theorem prime_137849 : IsP 137849 := gen_137849.prime
theorem gen_3044861653679985063343 : Gen 3044861653679985063343 5 := cert_gen (l := [2, 3, 11, 30703, 82163, 132667, 137849]) (by decide +kernel) (by decide +kernel) (by simp only [List.forall_mem_cons]; exact ⟨prime_2, prime_3, prime_11, prime_30703, prime_82163, prime_132667, prime_137849, by simp⟩)
theorem prime_3044861653679985063343 : IsP 3044861653679985063343 := gen_3044861653679985063343.prime
theorem gen_198211423230930754013084525763697 : Gen 198211423230930754013084525763697 5 := cert_gen (l := [2, 2, 2, 2, 3, 23, 58964693, 3044861653679985063343]) (by decide +kernel) (by decide +kernel) (by simp only [List.forall_mem_cons]; exact ⟨prime_2, prime_2, prime_2, prime_2, prime_3, prime_23, prime_58964693, prime_3044861653679985063343, by simp⟩)
theorem prime_198211423230930754013084525763697 : IsP 198211423230930754013084525763697 := gen_198211423230930754013084525763697.prime
theorem gen_269 : Gen 269 2 := cert_gen (l := [2, 2, 67]) (by decide +kernel) (by decide +kernel) (by simp only [List.forall_mem_cons]; exact ⟨prime_2, prime_2, prime_67, by simp⟩)
theorem prime_269 : IsP 269 := gen_269.prime
theorem prime_73 : IsP 73 := small_prime 73 (by decide) (by decide)
theorem gen_307 : Gen 307 5 := cert_gen (l := [2, 3, 3, 17]) (by decide +kernel) (by decide +kernel) (by simp only [List.forall_mem_cons]; exact ⟨prime_2, prime_3, prime_3, prime_17, by simp⟩)
theorem prime_307 : IsP 307 := gen_307.prime
theorem gen_113 : Gen 113 3 := cert_gen (l := [2, 2, 2, 2, 7]) (by decide +kernel) (by decide +kernel) (by simp only [List.forall_mem_cons]; exact ⟨prime_2, prime_2, prime_2, prime_2, prime_7, by simp⟩)
theorem prime_113 : IsP 113 := gen_113.prime
theorem gen_2939 : Gen 2939 2 := cert_gen (l := [2, 13, 113]) (by decide +kernel) (by decide +kernel) (by simp only [List.forall_mem_cons]; exact ⟨prime_2, prime_13, prime_113, by simp⟩)
theorem prime_2939 : IsP 2939 := gen_2939.prime
theorem gen_5879 : Gen 5879 11 := cert_gen (l := [2, 2939]) (by decide +kernel) (by decide +kernel) (by simp only [List.forall_mem_cons]; exact ⟨prime_2, prime_2939, by simp⟩)
theorem prime_5879 : IsP 5879 := gen_5879.prime
theorem gen_292386187 : Gen 292386187 2 := cert_gen (l := [2, 3, 3, 3, 3, 307, 5879]) (by decide +kernel) (by decide +kernel) (by simp only [List.forall_mem_cons]; exact ⟨prime_2, prime_3, prime_3, prime_3, prime_3, prime_307, prime_5879, by simp⟩)
theorem prime_292386187 : IsP 292386187 := gen_292386187.prime
theorem gen_213441916511 : Gen 213441916511 13 := cert_gen (l := [2, 5, 73, 292386187]) (by decide +kernel) (by decide +kernel) (by simp only [List.forall_mem_cons]; exact ⟨prime_2, prime_5, prime_73, prime_292386187, by simp⟩)
theorem prime_213441916511 : IsP 213441916511 := gen_213441916511.prime
theorem gen_1361 : Gen 1361 3 := cert_gen (l := [2, 2, 2, 2, 5, 17]) (by decide +kernel) (by decide +kernel) (by simp only [List.forall_mem_cons]; exact ⟨prime_2, prime_2, prime_2, prime_2, prime_5, prime_17, by simp⟩)
theorem prime_1361 : IsP 1361 := gen_1361.prime
theorem gen_2851 : Gen 2851 2 := cert_gen (l := [2, 3, 5, 5, 19]) (by decide +kernel) (by decide +kernel) (by simp only [List.forall_mem_cons]; exact ⟨prime_2, prime_3, prime_5, prime_5, prime_19, by simp⟩)
theorem prime_2851 : IsP 2851 := gen_2851.prime
theorem gen_3797 : Gen 3797 2 := cert_gen (l := [2, 2, 13, 73]) (by decide +kernel) (by decide +kernel) (by simp only [List.forall_mem_cons]; exact ⟨prime_2, prime_2, prime_13, prime_73, by simp⟩)
theorem prime_3797 : IsP 3797 := gen_3797.prime
theorem gen_531581 : Gen 531581 2 := cert_gen (l := [2, 2, 5, 7, 3797]) (by decide +kernel) (by decide +kernel) (by simp only [List.forall_mem_cons]; exact ⟨prime_2, prime_2, prime_5, prime_7, prime_3797, by simp⟩)
theorem prime_531581 : IsP 531581 := gen_531581.prime
theorem gen_2551 : Gen 2551 6 := cert_gen (l := [2, 3, 5, 5, 17]) (by decide +kernel) (by decide +kernel) (by simp only [List.forall_mem_cons]; exact ⟨prime_2, prime_3, prime_5, prime_5, prime_17, by simp⟩)
theorem prime_2551 : IsP 2551 := gen_2551.prime
theorem gen_1224481 : Gen 1224481 13 := cert_gen (l := [2, 2, 2, 2, 2, 3, 5, 2551]) (by decide +kernel) (by decide +kernel) (by simp only [List.forall_mem_cons]; exact ⟨prime_2, prime_2, prime_2, prime_2, prime_2, prime_3, prime_5, prime_2551, by simp⟩)
theorem prime_1224481 : IsP 1224481 := gen_1224481.prime
theorem gen_1257559732178653 : Gen 1257559732178653 2 := cert_gen (l := [2, 2, 3, 7, 23, 531581, 1224481]) (by decide +kernel) (by decide +kernel) (by simp only [List.forall_mem_cons]; exact ⟨prime_2, prime_2, prime_3, prime_7, prime_23, prime_531581, prime_1224481, by simp⟩)
theorem prime_1257559732178653 : IsP 1257559732178653 := gen_1257559732178653.prime
theorem gen_4434155615661930479 : Gen 4434155615661930479 17 := cert_gen (l := [2, 41, 43, 1257559732178653]) (by decide +kernel) (by decide +kernel) (by simp only [List.forall_mem_cons]; exact ⟨prime_2, prime_41, prime_43, prime_1257559732178653, by simp⟩)
theorem prime_4434155615661930479 : IsP 4434155615661930479 := gen_4434155615661930479.prime
theorem gen_172054593956031949258510691 : Gen 172054593956031949258510691 2 := cert_gen (l := [2, 5, 1361, 2851, 4434155615661930479]) (by decide +kernel) (by decide +kernel) (by simp only [List.forall_mem_cons]; exact ⟨prime_2, prime_5, prime_1361, prime_2851, prime_4434155615661930479, by simp⟩)
theorem prime_172054593956031949258510691 : IsP 172054593956031949258510691 := gen_172054593956031949258510691.prime
theorem gen_19757330305831588566944191468367130476339 : Gen 19757330305831588566944191468367130476339 2 := cert_gen (l := [2, 269, 213441916511, 172054593956031949258510691]) (by decide +kernel) (by decide +kernel) (by simp only [List.forall_mem_cons]; exact ⟨prime_2, prime_269, prime_213441916511, prime_172054593956031949258510691, by simp⟩)
theorem prime_19757330305831588566944191468367130476339 : IsP 19757330305831588566944191468367130476339 := gen_19757330305831588566944191468367130476339.prime
theorem gen_276602624281642239937218680557139826668747 : Gen 276602624281642239937218680557139826668747 2 := cert_gen (l := [2, 7, 19757330305831588566944191468367130476339]) (by decide +kernel) (by decide +kernel) (by simp only [List.forall_mem_cons]; exact ⟨prime_2, prime_7, prime_19757330305831588566944191468367130476339, by simp⟩)
theorem prime_276602624281642239937218680557139826668747 : IsP 276602624281642239937218680557139826668747 := gen_276602624281642239937218680557139826668747.prime
theorem gen_7237005577332262213973186563042994240857116359379907606001950938285454250989 : Gen 7237005577332262213973186563042994240857116359379907606001950938285454250989 2 := cert_gen (l := [2, 2, 3, 11, 198211423230930754013084525763697, 276602624281642239937218680557139826668747]) (by decide +kernel) (by decide +kernel) (by simp only [List.forall_mem_cons]; exact ⟨prime_2, prime_2, prime_3, prime_11, prime_198211423230930754013084525763697, prime_276602624281642239937218680557139826668747, by simp⟩)
theorem prime_7237005577332262213973186563042994240857116359379907606001950938285454250989 : IsP 7237005577332262213973186563042994240857116359379907606001950938285454250989 := gen_7237005577332262213973186563042994240857116359379907606001950938285454250989.prime
abbrev pp : Nat := 57896044618658097711785492504343953926634992332820282019728792003956564819949
abbrev ll : Nat := 7237005577332262213973186563042994240857116359379907606001950938285454250989
theorem pp_gen : Gen pp 2 := gen_57896044618658097711785492504343953926634992332820282019728792003956564819949
theorem ll_gen : Gen ll 2 := gen_7237005577332262213973186563042994240857116359379907606001950938285454250989
theorem pp_prime : IsP pp := pp_gen.prime
theorem ll_prime : IsP ll := ll_gen.prime
end Go.Vk.Num
