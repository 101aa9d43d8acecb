import Derived.Test.YtnkfdobcmfdhfaaDoorKL2

